

/- Written by a program of this session (wip/patch_print.py over the kit's print): functions of the given program as plain Lean functions, and that each call does what its function says, under no further conditions. -/
import Derived.Test.YtmpnaaegahjfkaaQx0
import Derived.Test.YtmpnaaegahjfkaaQx5
import Derived.Test.YtmpnaaegahjfkaaQx6
import Derived.Test.YtmpnaaegahjfkaaQx8
import Derived.Test.YtmpnaaegahjfkaaQx11
namespace Go.Proofs.Ytmpnaaegahjfkaa.Q
open Go.RowKit Go.Proofs.YtmpnaaegahjfkaaW.PrintWords Go.Proofs.YtmpnaaegahjfkaaW.PrintLast Go.Proofs.YtmpnaaegahjfkaaW.PrintMore
attribute [local go_sem] max2_int min2_int max_two min_two max_three min_three max_four min_four   -- for this text's walks alone
set_option linter.unusedVariables false
set_option linter.unusedSimpArgs false
attribute [local go_sem] xor_ones_u8 xor_ones_u16 xor_ones_u32 xor_ones_u64 cell_twice frozen_twice
abbrev zaqaa := @World.block_lt_of_cell?
abbrev zaqab := @blk_drewN
abbrev zaqac := @blk_alloc
abbrev zaqad := @blk_drew
abbrev zaqae := @below_set
abbrev zaqaf := @pw_below_drewN
abbrev zaqag := @below_drew1
abbrev zaqah := @below_alloc
abbrev zaqai := @blk_cell
abbrev zaqaj := @blk_frozen
abbrev zaqak := @List.map_toArray
abbrev zaqal := @List.map_cons
abbrev zaqam := @List.map_nil
abbrev zaqan := @Aside0.mk
/-! ### chain_Find: function 22 -/
def chain_Find.f (k : Nat) (l0 : List (S24)) (a1 : Int) : Option (Int × Bool × Int × ByteArray × (List (S72)) × Int) := (chain_right.f k l0).bind fun t319 => (if t319 = true then ((chain_at.f l0 a1).bind fun t320 => (if t320 ≥ 0 then (if 0 ≤ t320 then (if t320 < (l0.length : Int) then ((chain_own.f ((rd_T24 l0 t320).f0) ((rd_T24 l0 t320).f1) ((rd_T24 l0 t320).f2) ((rd_T24 l0 t320).f3) ((rd_T24 l0 t320).f4)).bind fun bt322 => (some (bt322.1, bt322.2.1, bt322.2.2.1, bt322.2.2.2.1, bt322.2.2.2.2, 0))) else (none)) else (none)) else (some (0, false, 0, (⟨#[]⟩ : ByteArray), ([] : List (S72)), 4)))) else (some (0, false, 0, (⟨#[]⟩ : ByteArray), ([] : List (S72)), 1)))
set_option maxHeartbeats 8000000 in
set_option maxRecDepth 100000 in
theorem chain_Find.calls (k : Nat) (A0 : Option Addr) (c0 : Nat) (l0 : List (S24)) (a1 : Int) (r1 : Int) (r2 : Bool) (r3 : Int) (r4 : ByteArray) (r5 : List (S72)) (r6 : Int) (w : World) (hr0 : Kd.C k24 w A0 l0.length l0) (hc0 : l0.length ≤ c0) (h : chain_Find.f k l0 a1 = some (r1, r2, r3, r4, r5, r6)) :
  Calls Try.prog 22 #[.slice A0 l0.length c0, .int .i64 a1] w fun e w' => ∃ v4_ : Value, e = .returned (.tuple #[.agg #[.int .i64 r1, .bool r2, .int .i64 r3, .string r4, v4_], .int .i64 r6]) ∧ Kd.R k72 72 w' w.heap.size (fun _ => True) v4_ r5 ∧ Below w.heap.size w w' := by
 have hu24 := Try.underlying24
 have HR0 := zaqan hr0
 have HC0 := zaqan hc0
 clear hr0 hc0
 have HB := zaqan (Below.refl w.heap.size w)
 have H : ((chain_right.f k l0).bind fun t319 => (if t319 = true then ((chain_at.f l0 a1).bind fun t320 => (if t320 ≥ 0 then (if 0 ≤ t320 then (if t320 < (l0.length : Int) then ((chain_own.f ((rd_T24 l0 t320).f0) ((rd_T24 l0 t320).f1) ((rd_T24 l0 t320).f2) ((rd_T24 l0 t320).f3) ((rd_T24 l0 t320).f4)).bind fun bt322 => (some (bt322.1, bt322.2.1, bt322.2.2.1, bt322.2.2.2.1, bt322.2.2.2.2, 0))) else (none)) else (none)) else (some (0, false, 0, (⟨#[]⟩ : ByteArray), ([] : List (S72)), 4)))) else (some (0, false, 0, (⟨#[]⟩ : ByteArray), ([] : List (S72)), 1)))) = some (r1, r2, r3, r4, r5, r6) := h
 clear h
 replace H := Option.bind_eq_some_iff.mp H
 obtain ⟨t319, A30, H⟩ := H
 replace H : (if t319 = true then ((chain_at.f l0 a1).bind fun t320 => (if t320 ≥ 0 then (if 0 ≤ t320 then (if t320 < (l0.length : Int) then ((chain_own.f ((rd_T24 l0 t320).f0) ((rd_T24 l0 t320).f1) ((rd_T24 l0 t320).f2) ((rd_T24 l0 t320).f3) ((rd_T24 l0 t320).f4)).bind fun bt322 => (some (bt322.1, bt322.2.1, bt322.2.2.1, bt322.2.2.2.1, bt322.2.2.2.2, 0))) else (none)) else (none)) else (some (0, false, 0, (⟨#[]⟩ : ByteArray), ([] : List (S72)), 4)))) else (some (0, false, 0, (⟨#[]⟩ : ByteArray), ([] : List (S72)), 1))) = some (r1, r2, r3, r4, r5, r6) := H
 have A3 := zaqan A30
 clear A30
 by_cases c4 : t319 = true
 ·subst c4
  have H1 : ((chain_at.f l0 a1).bind fun t320 => (if t320 ≥ 0 then (if 0 ≤ t320 then (if t320 < (l0.length : Int) then ((chain_own.f ((rd_T24 l0 t320).f0) ((rd_T24 l0 t320).f1) ((rd_T24 l0 t320).f2) ((rd_T24 l0 t320).f3) ((rd_T24 l0 t320).f4)).bind fun bt322 => (some (bt322.1, bt322.2.1, bt322.2.2.1, bt322.2.2.2.1, bt322.2.2.2.2, 0))) else (none)) else (none)) else (some (0, false, 0, (⟨#[]⟩ : ByteArray), ([] : List (S72)), 4)))) = some (r1, r2, r3, r4, r5, r6) := by rw [if_pos rfl] at H; exact H
  clear H
  have H := H1
  clear H1
  replace H := Option.bind_eq_some_iff.mp H
  obtain ⟨t320, A50, H⟩ := H
  replace H : (if t320 ≥ 0 then (if 0 ≤ t320 then (if t320 < (l0.length : Int) then ((chain_own.f ((rd_T24 l0 t320).f0) ((rd_T24 l0 t320).f1) ((rd_T24 l0 t320).f2) ((rd_T24 l0 t320).f3) ((rd_T24 l0 t320).f4)).bind fun bt322 => (some (bt322.1, bt322.2.1, bt322.2.2.1, bt322.2.2.2.1, bt322.2.2.2.2, 0))) else (none)) else (none)) else (some (0, false, 0, (⟨#[]⟩ : ByteArray), ([] : List (S72)), 4))) = some (r1, r2, r3, r4, r5, r6) := H
  have A5 := zaqan A50
  clear A50
  by_cases c6 : t320 ≥ 0
  ·rw [if_pos c6] at H
   have c6b0 : decide (0 ≤ t320) = true := decide_eq_true c6
   clear c6
   by_cases c7 : 0 ≤ t320
   ·rw [if_pos c7] at H
    have c7b0 : decide (0 ≤ t320) = true := decide_eq_true c7
    clear c7
    by_cases c8 : t320 < (l0.length : Int)
    ·rw [if_pos c8] at H
     have c8b0 : decide (t320 < (l0.length : Int)) = true := decide_eq_true c8
     clear c8
     replace H := Option.bind_eq_some_iff.mp H
     obtain ⟨⟨t322, t323, t324, t325, t326⟩, A90, H⟩ := H
     replace H : (some (t322, t323, t324, t325, t326, 0)) = some (r1, r2, r3, r4, r5, r6) := H
     have A9 := zaqan A90
     clear A90
     simp only [Option.some.injEq, Prod.mk.injEq] at H
     obtain ⟨rfl, rfl, rfl, rfl, rfl, rfl⟩ := H
     go_enter Try.func22, Try.ntmps22
     go_wp2_with (first | ((with_reducible refine gate_dst (N := 4) rfl ?_); refine box_event ?hg (N := 4) ?hd (cs := #[.int .i64 0, .bool false, .int .i64 0, .string (⟨#[]⟩ : ByteArray), .slice none 0 0]) (t := 24) ?hr ?_; (case hd => rfl); (case hg => rfl); (case hr => first | (go_simp; done) | (go_simp; rfl)); intro zaqau hg w10 hbox hb; have n0_ := zaqan (below_step (by repeat (first | (with_reducible first | exact HB.out | apply zaqah | apply zaqaf | apply zaqag) | exact HB.out)) hb); have n1_ := zaqan (hbox); have n2_ := zaqan ((by rw [hg]; exact (below_size (by repeat (first | (with_reducible first | exact HB.out | apply zaqah | apply zaqaf | apply zaqag) | exact HB.out))) : w.heap.size ≤ zaqau)); have n3_ := zaqan ((by rw [hg]; exact (below_size (by repeat (first | (with_reducible first | exact HB.out | apply zaqah | apply zaqaf | apply zaqag) | exact HB.out))) : w.heap.size ≤ zaqau)); clear HB; have HB := n0_; have zaqaq := n1_; have zaqbq := n2_; have zaqbe := n3_; clear n0_ n1_ n2_ n3_; clear hb hbox hg) | ((with_reducible refine gate_callee (f := 37) rfl ?_); refine goesL_ (some 8) rfl rfl Try.func37 (by kernel_rfl) rfl #[.slice A0 l0.length c0] rfl (by (try simp only [zaqak, zaqal, zaqam]); first | done | rfl) ?_; (with_reducible refine (chain_right.calls k _ _ l0 true _ ?side1 ?side2 A3.out).mono ?_); (case side1 => repeat (first | exact (Kd.C_below HR0.out HB.out) | (with_reducible refine Kd.C_alloc ?_ _) | (with_reducible refine Kd.C_drewN ?_ _) | (with_reducible refine Kd.C_drew ?_))); (case side2 => exact HC0.out); rintro e w11 ⟨rfl, hb⟩; refine ⟨_, rfl, ?_⟩; have n0_ := zaqan (blk_below (g := zaqau) (o := .cells #[.int .i64 0, .bool false, .int .i64 0, .string (⟨#[]⟩ : ByteArray), .slice none 0 0] 24 (0, 0)) (by (with_reducible repeat (first | refine zaqab ?_ _ | refine zaqad ?_ | refine zaqac ?_ _)); exact zaqaq.out) hb); have n1_ := zaqan (below_step (by repeat (first | (with_reducible first | exact HB.out | apply zaqah | apply zaqaf | apply zaqag | refine zaqae ?_ zaqbe.out) | exact HB.out)) hb); clear zaqaq; clear HB; have zaqaq := n0_; have HB := n1_; clear n0_ n1_; (try clear hb); (try clear hk); (try clear hi)) | ((with_reducible refine gate_callee (f := 41) rfl ?_); refine goesL_ (some 13) rfl rfl Try.func41 (by kernel_rfl) rfl #[.slice A0 l0.length c0, .int .i64 a1] rfl (by (try simp only [zaqak, zaqal, zaqam]); first | done | rfl) ?_; (with_reducible refine (chain_at.calls _ _ l0 a1 t320 _ ?side1 ?side2 A5.out).mono ?_); (case side1 => repeat (first | exact (Kd.C_below HR0.out HB.out) | (with_reducible refine Kd.C_alloc ?_ _) | (with_reducible refine Kd.C_drewN ?_ _) | (with_reducible refine Kd.C_drew ?_))); (case side2 => exact HC0.out); rintro e w12 ⟨rfl, hb⟩; refine ⟨_, rfl, ?_⟩; have n0_ := zaqan (blk_below (g := zaqau) (o := .cells #[.int .i64 0, .bool false, .int .i64 0, .string (⟨#[]⟩ : ByteArray), .slice none 0 0] 24 (0, 0)) (by (with_reducible repeat (first | refine zaqab ?_ _ | refine zaqad ?_ | refine zaqac ?_ _)); exact zaqaq.out) hb); have n1_ := zaqan (below_step (by repeat (first | (with_reducible first | exact HB.out | apply zaqah | apply zaqaf | apply zaqag | refine zaqae ?_ zaqbe.out) | exact HB.out)) hb); clear zaqaq; clear HB; have zaqaq := n0_; have HB := n1_; clear n0_ n1_; (try clear hb); (try clear hk); (try clear hi); have p321 : 0 ≤ (t320 : Int) := of_decide_eq_true (by first | (with_reducible assumption) | assumption); have q321 : t320 < (l0.length : Int) := of_decide_eq_true (by first | (with_reducible assumption) | assumption); obtain ⟨ad321, A321_4, c321_4, e321, hx321_0, hx321_1, hx321_2, hx321_3, hx321_4, hl321_4, hi321_4⟩ := at_T24 HR0.out t320 p321 q321; cases e321; replace hx321_0 := (HB.out.cell (zaqaa w _ hx321_0)).trans hx321_0; replace hx321_1 := (HB.out.cell (zaqaa w _ hx321_1)).trans hx321_1; replace hx321_2 := (HB.out.cell (zaqaa w _ hx321_2)).trans hx321_2; replace hx321_3 := (HB.out.cell (zaqaa w _ hx321_3)).trans hx321_3; replace hx321_4 := (HB.out.cell (zaqaa w _ hx321_4)).trans hx321_4; have HR321_4 := zaqan hi321_4; have HC321_4 := zaqan hl321_4; clear hi321_4 hl321_4; replace p321 := eq_true p321; replace q321 := eq_true q321) | ((with_reducible refine gate_callee (f := 38) rfl ?_); refine goesL_ (some 20) rfl rfl Try.func38 (by kernel_rfl) rfl #[.agg #[.int .i64 ((rd_T24 l0 t320).f0), .bool ((rd_T24 l0 t320).f1), .int .i64 ((rd_T24 l0 t320).f2), .string ((rd_T24 l0 t320).f3), .slice A321_4 ((rd_T24 l0 t320).f4).length c321_4]] rfl (by (try simp only [zaqak, zaqal, zaqam]); first | done | rfl) ?_; (with_reducible refine (chain_own.calls ((rd_T24 l0 t320).f0) ((rd_T24 l0 t320).f1) ((rd_T24 l0 t320).f2) ((rd_T24 l0 t320).f3) _ _ ((rd_T24 l0 t320).f4) t322 t323 t324 t325 t326 _ ?side1 ?side2 A9.out).mono ?_); (case side1 => repeat (first | exact (Kd.C_below HR321_4.out HB.out) | (with_reducible refine Kd.C_alloc ?_ _) | (with_reducible refine Kd.C_drewN ?_ _) | (with_reducible refine Kd.C_drew ?_))); (case side2 => exact HC321_4.out); rintro e w13 ⟨v327, rfl, ho0, hb⟩; refine ⟨_, rfl, ?_⟩; have n0_ := zaqan (Kd.R_lower ho0 (below_size (by repeat (first | (with_reducible first | exact HB.out | apply zaqah | apply zaqaf | apply zaqag | refine zaqae ?_ zaqbe.out) | exact HB.out)))); have n1_ := zaqan (blk_below (g := zaqau) (o := .cells #[.int .i64 0, .bool false, .int .i64 0, .string (⟨#[]⟩ : ByteArray), .slice none 0 0] 24 (0, 0)) (by (with_reducible repeat (first | refine zaqab ?_ _ | refine zaqad ?_ | refine zaqac ?_ _)); exact zaqaq.out) hb); have n2_ := zaqan (below_step (by repeat (first | (with_reducible first | exact HB.out | apply zaqah | apply zaqaf | apply zaqag | refine zaqae ?_ zaqbe.out) | exact HB.out)) hb); clear zaqaq; clear HB; have HO328 := n0_; have zaqaq := n1_; have HB := n2_; clear n0_ n1_ n2_; (try clear hb); (try clear hk); (try clear hi); (try clear ho0); have zaqbr : w13.cell? ⟨zaqau, 0, none⟩ = some (.int .i64 0) := (zaqai zaqaq.out 0).trans rfl; have zaqbs : w13.cell? ⟨zaqau, 1, none⟩ = some (.bool false) := (zaqai zaqaq.out 1).trans rfl; have zaqbt : w13.cell? ⟨zaqau, 2, none⟩ = some (.int .i64 0) := (zaqai zaqaq.out 2).trans rfl; have zaqbu : w13.cell? ⟨zaqau, 3, none⟩ = some (.string (⟨#[]⟩ : ByteArray)) := (zaqai zaqaq.out 3).trans rfl; have zaqbv : w13.cell? ⟨zaqau, 4, none⟩ = some (.slice none 0 0) := (zaqai zaqaq.out 4).trans rfl; have zaqbw := zaqaj zaqaq.out 0; have zaqbx := zaqaj zaqaq.out 1; have zaqby := zaqaj zaqaq.out 2; have zaqbz := zaqaj zaqaq.out 3; have zaqca := zaqaj zaqaq.out 4; obtain ⟨Ao15, co15, eo15⟩ := Kd.R_slice HO328.out; subst eo15))
     refine bodyPost_ret (results_ct rfl _ _ zaqau 24 #[.int .i64 t322, .bool t323, .int .i64 t324, .string t325, .slice Ao15 t326.length co15] (0, 0) _ rfl (by (with_reducible repeat (first | refine zaqab ?_ _ | refine zaqad ?_ | refine zaqac ?_ _)); refine blk_put (cs := #[.int .i64 t322, .bool t323, .int .i64 t324, .string t325, .slice none 0 0]) ?_ 4 _ rfl; (with_reducible repeat (first | refine zaqab ?_ _ | refine zaqad ?_ | refine zaqac ?_ _)); refine blk_put (cs := #[.int .i64 t322, .bool t323, .int .i64 t324, .string (⟨#[]⟩ : ByteArray), .slice none 0 0]) ?_ 3 _ rfl; (with_reducible repeat (first | refine zaqab ?_ _ | refine zaqad ?_ | refine zaqac ?_ _)); refine blk_put (cs := #[.int .i64 t322, .bool t323, .int .i64 0, .string (⟨#[]⟩ : ByteArray), .slice none 0 0]) ?_ 2 _ rfl; (with_reducible repeat (first | refine zaqab ?_ _ | refine zaqad ?_ | refine zaqac ?_ _)); refine blk_put (cs := #[.int .i64 t322, .bool false, .int .i64 0, .string (⟨#[]⟩ : ByteArray), .slice none 0 0]) ?_ 1 _ rfl; (with_reducible repeat (first | refine zaqab ?_ _ | refine zaqad ?_ | refine zaqac ?_ _)); refine blk_put (cs := #[.int .i64 0, .bool false, .int .i64 0, .string (⟨#[]⟩ : ByteArray), .slice none 0 0]) ?_ 0 _ rfl; (with_reducible repeat (first | refine zaqab ?_ _ | refine zaqad ?_ | refine zaqac ?_ _)); exact zaqaq.out) Try.underlying24 rfl (by kernel_rfl)) rfl ?_
     exact ⟨_, by first | rfl | (simp [errW_none, errW_some] <;> rfl) | (simp [*, errW_none, errW_some] <;> rfl), by (with_reducible repeat (first | apply Kd.R_alloc | apply Kd.R_drewN | apply Kd.R_drew)); exact Kd.R_mono (Kd.R_far (p := ⟨zaqau, 4, none⟩) (Kd.R_far (p := ⟨zaqau, 3, none⟩) (Kd.R_far (p := ⟨zaqau, 2, none⟩) (Kd.R_far (p := ⟨zaqau, 1, none⟩) (Kd.R_far (p := ⟨zaqau, 0, none⟩) (Kd.R_types HO328.out zaqaq.out (by decide)) (fun _ hk => hk.2) (.int .i64 t322)) (fun _ hk => hk.2) (.bool t323)) (fun _ hk => hk.2) (.int .i64 t324)) (fun _ hk => hk.2) (.string t325)) (fun _ hk => hk.2) (.slice Ao15 t326.length co15)) (fun _ hk => trivial), by repeat (first | (with_reducible first | exact HB.out | apply zaqah | apply zaqaf | apply zaqag | refine zaqae ?_ zaqbe.out) | exact HB.out)⟩
    ·rw [if_neg c8] at H
     exact absurd H (by simp)
   ·rw [if_neg c7] at H
    exact absurd H (by simp)
  ·rw [if_neg c6] at H
   have c6b0 : decide (0 ≤ t320) = false := decide_eq_false c6
   clear c6
   simp only [Option.some.injEq, Prod.mk.injEq] at H
   obtain ⟨rfl, rfl, rfl, rfl, rfl, rfl⟩ := H
   go_enter Try.func22, Try.ntmps22
   go_wp2_with (first | ((with_reducible refine gate_dst (N := 4) rfl ?_); refine box_event ?hg (N := 4) ?hd (cs := #[.int .i64 0, .bool false, .int .i64 0, .string (⟨#[]⟩ : ByteArray), .slice none 0 0]) (t := 24) ?hr ?_; (case hd => rfl); (case hg => rfl); (case hr => first | (go_simp; done) | (go_simp; rfl)); intro zaqau hg w16 hbox hb; have n0_ := zaqan (below_step (by repeat (first | (with_reducible first | exact HB.out | apply zaqah | apply zaqaf | apply zaqag) | exact HB.out)) hb); have n1_ := zaqan (hbox); have n2_ := zaqan ((by rw [hg]; exact (below_size (by repeat (first | (with_reducible first | exact HB.out | apply zaqah | apply zaqaf | apply zaqag) | exact HB.out))) : w.heap.size ≤ zaqau)); have n3_ := zaqan ((by rw [hg]; exact (below_size (by repeat (first | (with_reducible first | exact HB.out | apply zaqah | apply zaqaf | apply zaqag) | exact HB.out))) : w.heap.size ≤ zaqau)); clear HB; have HB := n0_; have zaqaq := n1_; have zaqbq := n2_; have zaqbe := n3_; clear n0_ n1_ n2_ n3_; clear hb hbox hg) | ((with_reducible refine gate_callee (f := 37) rfl ?_); refine goesL_ (some 8) rfl rfl Try.func37 (by kernel_rfl) rfl #[.slice A0 l0.length c0] rfl (by (try simp only [zaqak, zaqal, zaqam]); first | done | rfl) ?_; (with_reducible refine (chain_right.calls k _ _ l0 true _ ?side1 ?side2 A3.out).mono ?_); (case side1 => repeat (first | exact (Kd.C_below HR0.out HB.out) | (with_reducible refine Kd.C_alloc ?_ _) | (with_reducible refine Kd.C_drewN ?_ _) | (with_reducible refine Kd.C_drew ?_))); (case side2 => exact HC0.out); rintro e w17 ⟨rfl, hb⟩; refine ⟨_, rfl, ?_⟩; have n0_ := zaqan (blk_below (g := zaqau) (o := .cells #[.int .i64 0, .bool false, .int .i64 0, .string (⟨#[]⟩ : ByteArray), .slice none 0 0] 24 (0, 0)) (by (with_reducible repeat (first | refine zaqab ?_ _ | refine zaqad ?_ | refine zaqac ?_ _)); exact zaqaq.out) hb); have n1_ := zaqan (below_step (by repeat (first | (with_reducible first | exact HB.out | apply zaqah | apply zaqaf | apply zaqag | refine zaqae ?_ zaqbe.out) | exact HB.out)) hb); clear zaqaq; clear HB; have zaqaq := n0_; have HB := n1_; clear n0_ n1_; (try clear hb); (try clear hk); (try clear hi)) | ((with_reducible refine gate_callee (f := 41) rfl ?_); refine goesL_ (some 13) rfl rfl Try.func41 (by kernel_rfl) rfl #[.slice A0 l0.length c0, .int .i64 a1] rfl (by (try simp only [zaqak, zaqal, zaqam]); first | done | rfl) ?_; (with_reducible refine (chain_at.calls _ _ l0 a1 t320 _ ?side1 ?side2 A5.out).mono ?_); (case side1 => repeat (first | exact (Kd.C_below HR0.out HB.out) | (with_reducible refine Kd.C_alloc ?_ _) | (with_reducible refine Kd.C_drewN ?_ _) | (with_reducible refine Kd.C_drew ?_))); (case side2 => exact HC0.out); rintro e w18 ⟨rfl, hb⟩; refine ⟨_, rfl, ?_⟩; have n0_ := zaqan (blk_below (g := zaqau) (o := .cells #[.int .i64 0, .bool false, .int .i64 0, .string (⟨#[]⟩ : ByteArray), .slice none 0 0] 24 (0, 0)) (by (with_reducible repeat (first | refine zaqab ?_ _ | refine zaqad ?_ | refine zaqac ?_ _)); exact zaqaq.out) hb); have n1_ := zaqan (below_step (by repeat (first | (with_reducible first | exact HB.out | apply zaqah | apply zaqaf | apply zaqag | refine zaqae ?_ zaqbe.out) | exact HB.out)) hb); clear zaqaq; clear HB; have zaqaq := n0_; have HB := n1_; clear n0_ n1_; (try clear hb); (try clear hk); (try clear hi); have zaqcb : w18.cell? ⟨zaqau, 0, none⟩ = some (.int .i64 0) := (zaqai zaqaq.out 0).trans rfl; have zaqcc : w18.cell? ⟨zaqau, 1, none⟩ = some (.bool false) := (zaqai zaqaq.out 1).trans rfl; have zaqcd : w18.cell? ⟨zaqau, 2, none⟩ = some (.int .i64 0) := (zaqai zaqaq.out 2).trans rfl; have zaqce : w18.cell? ⟨zaqau, 3, none⟩ = some (.string (⟨#[]⟩ : ByteArray)) := (zaqai zaqaq.out 3).trans rfl; have zaqcf : w18.cell? ⟨zaqau, 4, none⟩ = some (.slice none 0 0) := (zaqai zaqaq.out 4).trans rfl; have zaqcg := zaqaj zaqaq.out 0; have zaqch := zaqaj zaqaq.out 1; have zaqci := zaqaj zaqaq.out 2; have zaqcj := zaqaj zaqaq.out 3; have zaqck := zaqaj zaqaq.out 4))
   refine bodyPost_ret (results_ct rfl _ _ zaqau 24 #[.int .i64 0, .bool false, .int .i64 0, .string (⟨#[]⟩ : ByteArray), .slice none 0 0] (0, 0) _ rfl (by (with_reducible repeat (first | refine zaqab ?_ _ | refine zaqad ?_ | refine zaqac ?_ _)); refine blk_put (cs := #[.int .i64 0, .bool false, .int .i64 0, .string (⟨#[]⟩ : ByteArray), .slice none 0 0]) ?_ 4 _ rfl; (with_reducible repeat (first | refine zaqab ?_ _ | refine zaqad ?_ | refine zaqac ?_ _)); refine blk_put (cs := #[.int .i64 0, .bool false, .int .i64 0, .string (⟨#[]⟩ : ByteArray), .slice none 0 0]) ?_ 3 _ rfl; (with_reducible repeat (first | refine zaqab ?_ _ | refine zaqad ?_ | refine zaqac ?_ _)); refine blk_put (cs := #[.int .i64 0, .bool false, .int .i64 0, .string (⟨#[]⟩ : ByteArray), .slice none 0 0]) ?_ 2 _ rfl; (with_reducible repeat (first | refine zaqab ?_ _ | refine zaqad ?_ | refine zaqac ?_ _)); refine blk_put (cs := #[.int .i64 0, .bool false, .int .i64 0, .string (⟨#[]⟩ : ByteArray), .slice none 0 0]) ?_ 1 _ rfl; (with_reducible repeat (first | refine zaqab ?_ _ | refine zaqad ?_ | refine zaqac ?_ _)); refine blk_put (cs := #[.int .i64 0, .bool false, .int .i64 0, .string (⟨#[]⟩ : ByteArray), .slice none 0 0]) ?_ 0 _ rfl; (with_reducible repeat (first | refine zaqab ?_ _ | refine zaqad ?_ | refine zaqac ?_ _)); exact zaqaq.out) Try.underlying24 rfl (by kernel_rfl)) rfl ?_
   exact ⟨_, by first | rfl | (simp [errW_none, errW_some] <;> rfl) | (simp [*, errW_none, errW_some] <;> rfl), by first | exact Kd.R_nil _ _ _ _ _ | exact Kd.N_nil _ _ _ _ _ | exact Kd.V_nil _ _ _ _ _ | exact Kd.Q_nil _ _ _ _ _ | exact Kd.S_nil _ _ _ _ _, by repeat (first | (with_reducible first | exact HB.out | apply zaqah | apply zaqaf | apply zaqag | refine zaqae ?_ zaqbe.out) | exact HB.out)⟩
 ·replace c4 := Bool.eq_false_iff.mpr c4
  subst c4
  have H1 : (some (0, false, 0, (⟨#[]⟩ : ByteArray), ([] : List (S72)), 1)) = some (r1, r2, r3, r4, r5, r6) := by rw [if_neg (show ¬ (false = true) by decide)] at H; exact H
  clear H
  have H := H1
  clear H1
  simp only [Option.some.injEq, Prod.mk.injEq] at H
  obtain ⟨rfl, rfl, rfl, rfl, rfl, rfl⟩ := H
  go_enter Try.func22, Try.ntmps22
  go_wp2_with (first | ((with_reducible refine gate_dst (N := 4) rfl ?_); refine box_event ?hg (N := 4) ?hd (cs := #[.int .i64 0, .bool false, .int .i64 0, .string (⟨#[]⟩ : ByteArray), .slice none 0 0]) (t := 24) ?hr ?_; (case hd => rfl); (case hg => rfl); (case hr => first | (go_simp; done) | (go_simp; rfl)); intro zaqau hg w20 hbox hb; have n0_ := zaqan (below_step (by repeat (first | (with_reducible first | exact HB.out | apply zaqah | apply zaqaf | apply zaqag) | exact HB.out)) hb); have n1_ := zaqan (hbox); have n2_ := zaqan ((by rw [hg]; exact (below_size (by repeat (first | (with_reducible first | exact HB.out | apply zaqah | apply zaqaf | apply zaqag) | exact HB.out))) : w.heap.size ≤ zaqau)); have n3_ := zaqan ((by rw [hg]; exact (below_size (by repeat (first | (with_reducible first | exact HB.out | apply zaqah | apply zaqaf | apply zaqag) | exact HB.out))) : w.heap.size ≤ zaqau)); clear HB; have HB := n0_; have zaqaq := n1_; have zaqbq := n2_; have zaqbe := n3_; clear n0_ n1_ n2_ n3_; clear hb hbox hg) | ((with_reducible refine gate_callee (f := 37) rfl ?_); refine goesL_ (some 8) rfl rfl Try.func37 (by kernel_rfl) rfl #[.slice A0 l0.length c0] rfl (by (try simp only [zaqak, zaqal, zaqam]); first | done | rfl) ?_; (with_reducible refine (chain_right.calls k _ _ l0 false _ ?side1 ?side2 A3.out).mono ?_); (case side1 => repeat (first | exact (Kd.C_below HR0.out HB.out) | (with_reducible refine Kd.C_alloc ?_ _) | (with_reducible refine Kd.C_drewN ?_ _) | (with_reducible refine Kd.C_drew ?_))); (case side2 => exact HC0.out); rintro e w21 ⟨rfl, hb⟩; refine ⟨_, rfl, ?_⟩; have n0_ := zaqan (blk_below (g := zaqau) (o := .cells #[.int .i64 0, .bool false, .int .i64 0, .string (⟨#[]⟩ : ByteArray), .slice none 0 0] 24 (0, 0)) (by (with_reducible repeat (first | refine zaqab ?_ _ | refine zaqad ?_ | refine zaqac ?_ _)); exact zaqaq.out) hb); have n1_ := zaqan (below_step (by repeat (first | (with_reducible first | exact HB.out | apply zaqah | apply zaqaf | apply zaqag | refine zaqae ?_ zaqbe.out) | exact HB.out)) hb); clear zaqaq; clear HB; have zaqaq := n0_; have HB := n1_; clear n0_ n1_; (try clear hb); (try clear hk); (try clear hi); have zaqda : w21.cell? ⟨zaqau, 0, none⟩ = some (.int .i64 0) := (zaqai zaqaq.out 0).trans rfl; have zaqdb : w21.cell? ⟨zaqau, 1, none⟩ = some (.bool false) := (zaqai zaqaq.out 1).trans rfl; have zaqdc : w21.cell? ⟨zaqau, 2, none⟩ = some (.int .i64 0) := (zaqai zaqaq.out 2).trans rfl; have zaqdd : w21.cell? ⟨zaqau, 3, none⟩ = some (.string (⟨#[]⟩ : ByteArray)) := (zaqai zaqaq.out 3).trans rfl; have zaqde : w21.cell? ⟨zaqau, 4, none⟩ = some (.slice none 0 0) := (zaqai zaqaq.out 4).trans rfl; have zaqdf := zaqaj zaqaq.out 0; have zaqdg := zaqaj zaqaq.out 1; have zaqdh := zaqaj zaqaq.out 2; have zaqdi := zaqaj zaqaq.out 3; have zaqdj := zaqaj zaqaq.out 4))
  refine bodyPost_ret (results_ct rfl _ _ zaqau 24 #[.int .i64 0, .bool false, .int .i64 0, .string (⟨#[]⟩ : ByteArray), .slice none 0 0] (0, 0) _ rfl (by (with_reducible repeat (first | refine zaqab ?_ _ | refine zaqad ?_ | refine zaqac ?_ _)); refine blk_put (cs := #[.int .i64 0, .bool false, .int .i64 0, .string (⟨#[]⟩ : ByteArray), .slice none 0 0]) ?_ 4 _ rfl; (with_reducible repeat (first | refine zaqab ?_ _ | refine zaqad ?_ | refine zaqac ?_ _)); refine blk_put (cs := #[.int .i64 0, .bool false, .int .i64 0, .string (⟨#[]⟩ : ByteArray), .slice none 0 0]) ?_ 3 _ rfl; (with_reducible repeat (first | refine zaqab ?_ _ | refine zaqad ?_ | refine zaqac ?_ _)); refine blk_put (cs := #[.int .i64 0, .bool false, .int .i64 0, .string (⟨#[]⟩ : ByteArray), .slice none 0 0]) ?_ 2 _ rfl; (with_reducible repeat (first | refine zaqab ?_ _ | refine zaqad ?_ | refine zaqac ?_ _)); refine blk_put (cs := #[.int .i64 0, .bool false, .int .i64 0, .string (⟨#[]⟩ : ByteArray), .slice none 0 0]) ?_ 1 _ rfl; (with_reducible repeat (first | refine zaqab ?_ _ | refine zaqad ?_ | refine zaqac ?_ _)); refine blk_put (cs := #[.int .i64 0, .bool false, .int .i64 0, .string (⟨#[]⟩ : ByteArray), .slice none 0 0]) ?_ 0 _ rfl; (with_reducible repeat (first | refine zaqab ?_ _ | refine zaqad ?_ | refine zaqac ?_ _)); exact zaqaq.out) Try.underlying24 rfl (by kernel_rfl)) rfl ?_
  exact ⟨_, by first | rfl | (simp [errW_none, errW_some] <;> rfl) | (simp [*, errW_none, errW_some] <;> rfl), by first | exact Kd.R_nil _ _ _ _ _ | exact Kd.N_nil _ _ _ _ _ | exact Kd.V_nil _ _ _ _ _ | exact Kd.Q_nil _ _ _ _ _ | exact Kd.S_nil _ _ _ _ _, by repeat (first | (with_reducible first | exact HB.out | apply zaqah | apply zaqaf | apply zaqag | refine zaqae ?_ zaqbe.out) | exact HB.out)⟩

/-! ### stowageref13_Latest: function 25 -/
def stowageref13_Latest.f (k : Nat) (l0 : List (S36)) : Option (Int × Bool × Int × ByteArray × (List (S74)) × Int) := (stowageref13_May.f k l0).bind fun t330 => (if t330 = true then (if (l0.length : Int) = 0 then (some (0, false, 0, (⟨#[]⟩ : ByteArray), ([] : List (S74)), 4)) else (if 0 < (l0.length : Int) then (if (rd_T36 l0 0).f1 = true then (some (0, false, 0, (⟨#[]⟩ : ByteArray), ([] : List (S74)), 130)) else (some ((rd_T36 l0 0).f0, (rd_T36 l0 0).f1, (rd_T36 l0 0).f2, (rd_T36 l0 0).f3, (rd_T36 l0 0).f4, 0))) else (none))) else (some (0, false, 0, (⟨#[]⟩ : ByteArray), ([] : List (S74)), 1)))
set_option maxHeartbeats 8000000 in
set_option maxRecDepth 100000 in
theorem stowageref13_Latest.calls (k : Nat) (P0_ : Nat → Prop) (A0 : Option Addr) (c0 : Nat) (l0 : List (S36)) (r1 : Int) (r2 : Bool) (r3 : Int) (r4 : ByteArray) (r5 : List (S74)) (r6 : Int) (w : World) (hs0 : Kd.V k36 36 w w.heap.size (fun k_ => P0_ k_) (.slice A0 l0.length c0) l0) (h : stowageref13_Latest.f k l0 = some (r1, r2, r3, r4, r5, r6)) :
  Calls Try.prog 25 #[.slice A0 l0.length c0] w fun e w' => ∃ v4_ : Value, e = .returned (.tuple #[.agg #[.int .i64 r1, .bool r2, .int .i64 r3, .string r4, v4_], .int .i64 r6]) ∧ Kd.V k74 74 w' w.heap.size (fun k_ => (P0_ k_ ∨ w.heap.size ≤ k_)) v4_ r5 ∧ Below w.heap.size w w' := by
 have hu36 := Try.underlying36
 have HO0 := zaqan (show Kd.V k36 36 w w.heap.size (fun k_ => (P0_ k_ ∨ w.heap.size ≤ k_)) (.slice A0 l0.length c0) l0 from Kd.V_mono hs0 (fun k_ hk => .inl hk))
 have HB := zaqan (Below.refl w.heap.size w)
 have H : ((stowageref13_May.f k l0).bind fun t330 => (if t330 = true then (if (l0.length : Int) = 0 then (some (0, false, 0, (⟨#[]⟩ : ByteArray), ([] : List (S74)), 4)) else (if 0 < (l0.length : Int) then (if (rd_T36 l0 0).f1 = true then (some (0, false, 0, (⟨#[]⟩ : ByteArray), ([] : List (S74)), 130)) else (some ((rd_T36 l0 0).f0, (rd_T36 l0 0).f1, (rd_T36 l0 0).f2, (rd_T36 l0 0).f3, (rd_T36 l0 0).f4, 0))) else (none))) else (some (0, false, 0, (⟨#[]⟩ : ByteArray), ([] : List (S74)), 1)))) = some (r1, r2, r3, r4, r5, r6) := h
 clear h
 replace H := Option.bind_eq_some_iff.mp H
 obtain ⟨t330, A20, H⟩ := H
 replace H : (if t330 = true then (if (l0.length : Int) = 0 then (some (0, false, 0, (⟨#[]⟩ : ByteArray), ([] : List (S74)), 4)) else (if 0 < (l0.length : Int) then (if (rd_T36 l0 0).f1 = true then (some (0, false, 0, (⟨#[]⟩ : ByteArray), ([] : List (S74)), 130)) else (some ((rd_T36 l0 0).f0, (rd_T36 l0 0).f1, (rd_T36 l0 0).f2, (rd_T36 l0 0).f3, (rd_T36 l0 0).f4, 0))) else (none))) else (some (0, false, 0, (⟨#[]⟩ : ByteArray), ([] : List (S74)), 1))) = some (r1, r2, r3, r4, r5, r6) := H
 have A2 := zaqan A20
 clear A20
 by_cases c3 : t330 = true
 ·subst c3
  have H1 : (if (l0.length : Int) = 0 then (some (0, false, 0, (⟨#[]⟩ : ByteArray), ([] : List (S74)), 4)) else (if 0 < (l0.length : Int) then (if (rd_T36 l0 0).f1 = true then (some (0, false, 0, (⟨#[]⟩ : ByteArray), ([] : List (S74)), 130)) else (some ((rd_T36 l0 0).f0, (rd_T36 l0 0).f1, (rd_T36 l0 0).f2, (rd_T36 l0 0).f3, (rd_T36 l0 0).f4, 0))) else (none))) = some (r1, r2, r3, r4, r5, r6) := by rw [if_pos rfl] at H; exact H
  clear H
  have H := H1
  clear H1
  by_cases c4 : (l0.length : Int) = 0
  ·rw [if_pos c4] at H
   have c4b0 : ((l0.length : Int) == 0) = true := beq_iff_eq.mpr c4
   have c4b1 : ((l0.length : Int) != 0) = false := bne_eq_false_iff_eq.mpr c4
   clear c4
   simp only [Option.some.injEq, Prod.mk.injEq] at H
   obtain ⟨rfl, rfl, rfl, rfl, rfl, rfl⟩ := H
   go_enter Try.func25, Try.ntmps25
   go_wp2_with (first | ((with_reducible refine gate_dst (N := 2) rfl ?_); refine box_event ?hg (N := 2) ?hd (cs := #[.int .i64 0, .bool false, .int .i64 0, .string (⟨#[]⟩ : ByteArray), .slice none 0 0]) (t := 36) ?hr ?_; (case hd => rfl); (case hg => rfl); (case hr => first | (go_simp; done) | (go_simp; rfl)); intro zaqar hg w5 hbox hb; have n0_ := zaqan (Kd.V_below (Kd.V_elderB (by (with_reducible repeat (first | apply Kd.V_alloc | apply Kd.V_drewN | apply Kd.V_drew)); exact HO0.out) zaqar (Nat.le_of_eq hg.symm)) hb); have n1_ := zaqan (below_step (by repeat (first | (with_reducible first | exact HB.out | apply zaqah | apply zaqaf | apply zaqag) | exact HB.out)) hb); have n2_ := zaqan (hbox); have n3_ := zaqan ((by rw [hg]; exact (below_size (by repeat (first | (with_reducible first | exact HB.out | apply zaqah | apply zaqaf | apply zaqag) | exact HB.out))) : w.heap.size ≤ zaqar)); have n4_ := zaqan ((by rw [hg]; exact (below_size (by repeat (first | (with_reducible first | exact HB.out | apply zaqah | apply zaqaf | apply zaqag) | exact HB.out))) : w.heap.size ≤ zaqar)); clear HO0; clear HB; have HO0 := n0_; have HB := n1_; have zaqap := n2_; have zaqbm := n3_; have zaqbf := n4_; clear n0_ n1_ n2_ n3_ n4_; clear hb hbox hg) | ((with_reducible refine gate_callee (f := 40) rfl ?_); refine goesL_ (some 5) rfl rfl Try.func40 (by kernel_rfl) rfl #[.slice A0 l0.length c0] rfl (by (try simp only [zaqak, zaqal, zaqam]); first | done | rfl) ?_; (with_reducible refine (stowageref13_May.calls k _ _ l0 true _ ?side1 ?side2 A2.out).mono ?_); (case side1 => repeat (first | exact (Kd.V_reads' HO0.out).2.2 | (with_reducible refine Kd.C_alloc ?_ _) | (with_reducible refine Kd.C_drewN ?_ _) | (with_reducible refine Kd.C_drew ?_))); (case side2 => exact (Kd.V_reads' HO0.out).2.1); rintro e w6 ⟨rfl, hb⟩; refine ⟨_, rfl, ?_⟩; have n0_ := zaqan (Kd.V_below (by (with_reducible repeat (first | apply Kd.V_alloc | apply Kd.V_drewN | apply Kd.V_drew)); exact HO0.out) hb); have n1_ := zaqan (blk_below (g := zaqar) (o := .cells #[.int .i64 0, .bool false, .int .i64 0, .string (⟨#[]⟩ : ByteArray), .slice none 0 0] 36 (0, 0)) (by (with_reducible repeat (first | refine zaqab ?_ _ | refine zaqad ?_ | refine zaqac ?_ _)); exact zaqap.out) hb); have n2_ := zaqan (below_step (by repeat (first | (with_reducible first | exact HB.out | apply zaqah | apply zaqaf | apply zaqag | refine zaqae ?_ zaqbf.out) | exact HB.out)) hb); clear HO0; clear zaqap; clear HB; have HO0 := n0_; have zaqap := n1_; have HB := n2_; clear n0_ n1_ n2_; (try clear hb); (try clear hk); (try clear hi); have zaqeu : w6.cell? ⟨zaqar, 0, none⟩ = some (.int .i64 0) := (zaqai zaqap.out 0).trans rfl; have zaqev : w6.cell? ⟨zaqar, 1, none⟩ = some (.bool false) := (zaqai zaqap.out 1).trans rfl; have zaqew : w6.cell? ⟨zaqar, 2, none⟩ = some (.int .i64 0) := (zaqai zaqap.out 2).trans rfl; have zaqex : w6.cell? ⟨zaqar, 3, none⟩ = some (.string (⟨#[]⟩ : ByteArray)) := (zaqai zaqap.out 3).trans rfl; have zaqey : w6.cell? ⟨zaqar, 4, none⟩ = some (.slice none 0 0) := (zaqai zaqap.out 4).trans rfl; have zaqez := zaqaj zaqap.out 0; have zaqfa := zaqaj zaqap.out 1; have zaqfb := zaqaj zaqap.out 2; have zaqfc := zaqaj zaqap.out 3; have zaqfd := zaqaj zaqap.out 4))
   refine bodyPost_ret (results_ct rfl _ _ zaqar 36 #[.int .i64 0, .bool false, .int .i64 0, .string (⟨#[]⟩ : ByteArray), .slice none 0 0] (0, 0) _ rfl (by (with_reducible repeat (first | refine zaqab ?_ _ | refine zaqad ?_ | refine zaqac ?_ _)); refine blk_put (cs := #[.int .i64 0, .bool false, .int .i64 0, .string (⟨#[]⟩ : ByteArray), .slice none 0 0]) ?_ 4 _ rfl; (with_reducible repeat (first | refine zaqab ?_ _ | refine zaqad ?_ | refine zaqac ?_ _)); refine blk_put (cs := #[.int .i64 0, .bool false, .int .i64 0, .string (⟨#[]⟩ : ByteArray), .slice none 0 0]) ?_ 3 _ rfl; (with_reducible repeat (first | refine zaqab ?_ _ | refine zaqad ?_ | refine zaqac ?_ _)); refine blk_put (cs := #[.int .i64 0, .bool false, .int .i64 0, .string (⟨#[]⟩ : ByteArray), .slice none 0 0]) ?_ 2 _ rfl; (with_reducible repeat (first | refine zaqab ?_ _ | refine zaqad ?_ | refine zaqac ?_ _)); refine blk_put (cs := #[.int .i64 0, .bool false, .int .i64 0, .string (⟨#[]⟩ : ByteArray), .slice none 0 0]) ?_ 1 _ rfl; (with_reducible repeat (first | refine zaqab ?_ _ | refine zaqad ?_ | refine zaqac ?_ _)); refine blk_put (cs := #[.int .i64 0, .bool false, .int .i64 0, .string (⟨#[]⟩ : ByteArray), .slice none 0 0]) ?_ 0 _ rfl; (with_reducible repeat (first | refine zaqab ?_ _ | refine zaqad ?_ | refine zaqac ?_ _)); exact zaqap.out) Try.underlying36 rfl (by kernel_rfl)) rfl ?_
   exact ⟨_, by first | rfl | (simp [errW_none, errW_some] <;> rfl) | (simp [*, errW_none, errW_some] <;> rfl), (Kd.V_nil _ _ _ _ _), by repeat (first | (with_reducible first | exact HB.out | apply zaqah | apply zaqaf | apply zaqag | refine zaqae ?_ zaqbf.out) | exact HB.out)⟩
  ·rw [if_neg c4] at H
   have c4b0 : ((l0.length : Int) == 0) = false := beq_eq_false_iff_ne.mpr c4
   have c4b1 : ((l0.length : Int) != 0) = true := bne_iff_ne.mpr c4
   have c4b2 : ¬ (l0 = []) := fun h_ => c4 (by rw [h_]; rfl)
   by_cases c8 : 0 < (l0.length : Int)
   ·rw [if_pos c8] at H
    have c8b0 : decide (0 < (l0.length : Int)) = true := decide_eq_true c8
    have c8b1 : decide (0 < l0.length) = true := decide_eq_true (by omega)
    clear c8
    obtain ⟨bq9, hbq9⟩ : ∃ b_ : Bool, b_ = ((rd_T36 l0 0).f1) := ⟨_, rfl⟩
    replace H : (if bq9 = true then (some (0, false, 0, (⟨#[]⟩ : ByteArray), ([] : List (S74)), 130)) else (some ((rd_T36 l0 0).f0, bq9, (rd_T36 l0 0).f2, (rd_T36 l0 0).f3, (rd_T36 l0 0).f4, 0))) = some (r1, r2, r3, r4, r5, r6) := by rw [← hbq9] at H; exact H
    have Nbq9 := zaqan hbq9
    clear hbq9
    by_cases c10 : bq9 = true
    ·subst c10
     have H1 : (some (0, false, 0, (⟨#[]⟩ : ByteArray), ([] : List (S74)), 130)) = some (r1, r2, r3, r4, r5, r6) := by rw [if_pos rfl] at H; exact H
     clear H
     have H := H1
     clear H1
     simp only [Option.some.injEq, Prod.mk.injEq] at H
     obtain ⟨rfl, rfl, rfl, rfl, rfl, rfl⟩ := H
     go_enter Try.func25, Try.ntmps25
     go_wp2_with (first | ((with_reducible refine gate_dst (N := 2) rfl ?_); refine box_event ?hg (N := 2) ?hd (cs := #[.int .i64 0, .bool false, .int .i64 0, .string (⟨#[]⟩ : ByteArray), .slice none 0 0]) (t := 36) ?hr ?_; (case hd => rfl); (case hg => rfl); (case hr => first | (go_simp; done) | (go_simp; rfl)); intro zaqar hg w11 hbox hb; have n0_ := zaqan (Kd.V_below (Kd.V_elderB (by (with_reducible repeat (first | apply Kd.V_alloc | apply Kd.V_drewN | apply Kd.V_drew)); exact HO0.out) zaqar (Nat.le_of_eq hg.symm)) hb); have n1_ := zaqan (below_step (by repeat (first | (with_reducible first | exact HB.out | apply zaqah | apply zaqaf | apply zaqag) | exact HB.out)) hb); have n2_ := zaqan (hbox); have n3_ := zaqan ((by rw [hg]; exact (below_size (by repeat (first | (with_reducible first | exact HB.out | apply zaqah | apply zaqaf | apply zaqag) | exact HB.out))) : w.heap.size ≤ zaqar)); have n4_ := zaqan ((by rw [hg]; exact (below_size (by repeat (first | (with_reducible first | exact HB.out | apply zaqah | apply zaqaf | apply zaqag) | exact HB.out))) : w.heap.size ≤ zaqar)); clear HO0; clear HB; have HO0 := n0_; have HB := n1_; have zaqap := n2_; have zaqbm := n3_; have zaqbf := n4_; clear n0_ n1_ n2_ n3_ n4_; clear hb hbox hg) | ((with_reducible refine gate_callee (f := 40) rfl ?_); refine goesL_ (some 5) rfl rfl Try.func40 (by kernel_rfl) rfl #[.slice A0 l0.length c0] rfl (by (try simp only [zaqak, zaqal, zaqam]); first | done | rfl) ?_; (with_reducible refine (stowageref13_May.calls k _ _ l0 true _ ?side1 ?side2 A2.out).mono ?_); (case side1 => repeat (first | exact (Kd.V_reads' HO0.out).2.2 | (with_reducible refine Kd.C_alloc ?_ _) | (with_reducible refine Kd.C_drewN ?_ _) | (with_reducible refine Kd.C_drew ?_))); (case side2 => exact (Kd.V_reads' HO0.out).2.1); rintro e w12 ⟨rfl, hb⟩; refine ⟨_, rfl, ?_⟩; have n0_ := zaqan (Kd.V_below (by (with_reducible repeat (first | apply Kd.V_alloc | apply Kd.V_drewN | apply Kd.V_drew)); exact HO0.out) hb); have n1_ := zaqan (blk_below (g := zaqar) (o := .cells #[.int .i64 0, .bool false, .int .i64 0, .string (⟨#[]⟩ : ByteArray), .slice none 0 0] 36 (0, 0)) (by (with_reducible repeat (first | refine zaqab ?_ _ | refine zaqad ?_ | refine zaqac ?_ _)); exact zaqap.out) hb); have n2_ := zaqan (below_step (by repeat (first | (with_reducible first | exact HB.out | apply zaqah | apply zaqaf | apply zaqag | refine zaqae ?_ zaqbf.out) | exact HB.out)) hb); clear HO0; clear zaqap; clear HB; have HO0 := n0_; have zaqap := n1_; have HB := n2_; clear n0_ n1_ n2_; (try clear hb); (try clear hk); (try clear hi); have p331 : 0 ≤ (0 : Int) := (by omega); have q331 : 0 < (l0.length : Int) := of_decide_eq_true (by first | (with_reducible assumption) | assumption); obtain ⟨ad331, A331_4, c331_4, e331, hx331_0, hx331_1, hx331_2, hx331_3, hx331_4, hl331_4, hi331_4⟩ := at_T36 (Kd.V_reads' HO0.out).2.2 0 p331 q331; (try rw [← Nbq9.out] at hx331_1); cases e331; obtain ⟨ce331, hce331, hMe331, hcc331⟩ := Kd.V_get HO0.out z36 0 p331 (by first | exact q331 | exact of_decide_eq_true (by first | (with_reducible assumption) | assumption) | (have e_ := (Kd.V_reads' HO0.out).1; omega)); obtain ⟨ua331_4, uc331_4, rfl, ul331_4, ge331_4⟩ := k36_openF hMe331; have hv331_4 := hcc331 4 _ rfl; rw [add_field _ _ 4 (by omega)] at hv331_4; replace hv331_4 := Option.some.inj (hv331_4.symm.trans hx331_4); injection hv331_4 with hva_ hvn_ hvc_; rw [hva_] at ge331_4; rw [hvc_] at ul331_4; have HL331_4 := zaqan (show Kd.V k74 74 _ w.heap.size _ _ ((rd_T36 l0 0).f4) from Kd.V_mk ul331_4 ge331_4); clear hva_ hvn_ hvc_ ge331_4 ul331_4; clear hcc331 hce331; have qi331 : (0 < l0.length) = True := eq_true (by omega); (try rw [show ((0 : Int)).toNat = 0 from rfl] at hx331_0); (try rw [show 0 * 5 = 0 from rfl] at hx331_0); (try rw [Addr.add_zero'] at hx331_0); (try rw [show ((0 : Int)).toNat = 0 from rfl] at hx331_1); (try rw [show 0 * 5 = 0 from rfl] at hx331_1); (try rw [Addr.add_zero'] at hx331_1); (try rw [show ((0 : Int)).toNat = 0 from rfl] at hx331_2); (try rw [show 0 * 5 = 0 from rfl] at hx331_2); (try rw [Addr.add_zero'] at hx331_2); (try rw [show ((0 : Int)).toNat = 0 from rfl] at hx331_3); (try rw [show 0 * 5 = 0 from rfl] at hx331_3); (try rw [Addr.add_zero'] at hx331_3); (try rw [show ((0 : Int)).toNat = 0 from rfl] at hx331_4); (try rw [show 0 * 5 = 0 from rfl] at hx331_4); (try rw [Addr.add_zero'] at hx331_4); have HR331_4 := zaqan hi331_4; have HC331_4 := zaqan hl331_4; clear hi331_4 hl331_4; replace p331 := eq_true p331; replace q331 := eq_true q331; have zaqdk : w12.cell? ⟨zaqar, 0, none⟩ = some (.int .i64 0) := (zaqai zaqap.out 0).trans rfl; have zaqdl : w12.cell? ⟨zaqar, 1, none⟩ = some (.bool false) := (zaqai zaqap.out 1).trans rfl; have zaqdm : w12.cell? ⟨zaqar, 2, none⟩ = some (.int .i64 0) := (zaqai zaqap.out 2).trans rfl; have zaqdn : w12.cell? ⟨zaqar, 3, none⟩ = some (.string (⟨#[]⟩ : ByteArray)) := (zaqai zaqap.out 3).trans rfl; have zaqdo : w12.cell? ⟨zaqar, 4, none⟩ = some (.slice none 0 0) := (zaqai zaqap.out 4).trans rfl; have zaqdp := zaqaj zaqap.out 0; have zaqdq := zaqaj zaqap.out 1; have zaqdr := zaqaj zaqap.out 2; have zaqds := zaqaj zaqap.out 3; have zaqdt := zaqaj zaqap.out 4))
     refine bodyPost_ret (results_ct rfl _ _ zaqar 36 #[.int .i64 0, .bool false, .int .i64 0, .string (⟨#[]⟩ : ByteArray), .slice none 0 0] (0, 0) _ rfl (by (with_reducible repeat (first | refine zaqab ?_ _ | refine zaqad ?_ | refine zaqac ?_ _)); refine blk_put (cs := #[.int .i64 0, .bool false, .int .i64 0, .string (⟨#[]⟩ : ByteArray), .slice none 0 0]) ?_ 4 _ rfl; (with_reducible repeat (first | refine zaqab ?_ _ | refine zaqad ?_ | refine zaqac ?_ _)); refine blk_put (cs := #[.int .i64 0, .bool false, .int .i64 0, .string (⟨#[]⟩ : ByteArray), .slice none 0 0]) ?_ 3 _ rfl; (with_reducible repeat (first | refine zaqab ?_ _ | refine zaqad ?_ | refine zaqac ?_ _)); refine blk_put (cs := #[.int .i64 0, .bool false, .int .i64 0, .string (⟨#[]⟩ : ByteArray), .slice none 0 0]) ?_ 2 _ rfl; (with_reducible repeat (first | refine zaqab ?_ _ | refine zaqad ?_ | refine zaqac ?_ _)); refine blk_put (cs := #[.int .i64 0, .bool false, .int .i64 0, .string (⟨#[]⟩ : ByteArray), .slice none 0 0]) ?_ 1 _ rfl; (with_reducible repeat (first | refine zaqab ?_ _ | refine zaqad ?_ | refine zaqac ?_ _)); refine blk_put (cs := #[.int .i64 0, .bool false, .int .i64 0, .string (⟨#[]⟩ : ByteArray), .slice none 0 0]) ?_ 0 _ rfl; (with_reducible repeat (first | refine zaqab ?_ _ | refine zaqad ?_ | refine zaqac ?_ _)); exact zaqap.out) Try.underlying36 rfl (by kernel_rfl)) rfl ?_
     exact ⟨_, by first | rfl | (simp [errW_none, errW_some] <;> rfl) | (simp [*, errW_none, errW_some] <;> rfl), (Kd.V_nil _ _ _ _ _), by repeat (first | (with_reducible first | exact HB.out | apply zaqah | apply zaqaf | apply zaqag | refine zaqae ?_ zaqbf.out) | exact HB.out)⟩
    ·replace c10 := Bool.eq_false_iff.mpr c10
     subst c10
     have H1 : (some ((rd_T36 l0 0).f0, false, (rd_T36 l0 0).f2, (rd_T36 l0 0).f3, (rd_T36 l0 0).f4, 0)) = some (r1, r2, r3, r4, r5, r6) := by rw [if_neg (show ¬ (false = true) by decide)] at H; exact H
     clear H
     have H := H1
     clear H1
     simp only [Option.some.injEq, Prod.mk.injEq] at H
     obtain ⟨rfl, rfl, rfl, rfl, rfl, rfl⟩ := H
     go_enter Try.func25, Try.ntmps25
     go_wp2_with (first | ((with_reducible refine gate_dst (N := 2) rfl ?_); refine box_event ?hg (N := 2) ?hd (cs := #[.int .i64 0, .bool false, .int .i64 0, .string (⟨#[]⟩ : ByteArray), .slice none 0 0]) (t := 36) ?hr ?_; (case hd => rfl); (case hg => rfl); (case hr => first | (go_simp; done) | (go_simp; rfl)); intro zaqar hg w14 hbox hb; have n0_ := zaqan (Kd.V_below (Kd.V_elderB (by (with_reducible repeat (first | apply Kd.V_alloc | apply Kd.V_drewN | apply Kd.V_drew)); exact HO0.out) zaqar (Nat.le_of_eq hg.symm)) hb); have n1_ := zaqan (below_step (by repeat (first | (with_reducible first | exact HB.out | apply zaqah | apply zaqaf | apply zaqag) | exact HB.out)) hb); have n2_ := zaqan (hbox); have n3_ := zaqan ((by rw [hg]; exact (below_size (by repeat (first | (with_reducible first | exact HB.out | apply zaqah | apply zaqaf | apply zaqag) | exact HB.out))) : w.heap.size ≤ zaqar)); have n4_ := zaqan ((by rw [hg]; exact (below_size (by repeat (first | (with_reducible first | exact HB.out | apply zaqah | apply zaqaf | apply zaqag) | exact HB.out))) : w.heap.size ≤ zaqar)); clear HO0; clear HB; have HO0 := n0_; have HB := n1_; have zaqap := n2_; have zaqbm := n3_; have zaqbf := n4_; clear n0_ n1_ n2_ n3_ n4_; clear hb hbox hg) | ((with_reducible refine gate_callee (f := 40) rfl ?_); refine goesL_ (some 5) rfl rfl Try.func40 (by kernel_rfl) rfl #[.slice A0 l0.length c0] rfl (by (try simp only [zaqak, zaqal, zaqam]); first | done | rfl) ?_; (with_reducible refine (stowageref13_May.calls k _ _ l0 true _ ?side1 ?side2 A2.out).mono ?_); (case side1 => repeat (first | exact (Kd.V_reads' HO0.out).2.2 | (with_reducible refine Kd.C_alloc ?_ _) | (with_reducible refine Kd.C_drewN ?_ _) | (with_reducible refine Kd.C_drew ?_))); (case side2 => exact (Kd.V_reads' HO0.out).2.1); rintro e w15 ⟨rfl, hb⟩; refine ⟨_, rfl, ?_⟩; have n0_ := zaqan (Kd.V_below (by (with_reducible repeat (first | apply Kd.V_alloc | apply Kd.V_drewN | apply Kd.V_drew)); exact HO0.out) hb); have n1_ := zaqan (blk_below (g := zaqar) (o := .cells #[.int .i64 0, .bool false, .int .i64 0, .string (⟨#[]⟩ : ByteArray), .slice none 0 0] 36 (0, 0)) (by (with_reducible repeat (first | refine zaqab ?_ _ | refine zaqad ?_ | refine zaqac ?_ _)); exact zaqap.out) hb); have n2_ := zaqan (below_step (by repeat (first | (with_reducible first | exact HB.out | apply zaqah | apply zaqaf | apply zaqag | refine zaqae ?_ zaqbf.out) | exact HB.out)) hb); clear HO0; clear zaqap; clear HB; have HO0 := n0_; have zaqap := n1_; have HB := n2_; clear n0_ n1_ n2_; (try clear hb); (try clear hk); (try clear hi); have p331 : 0 ≤ (0 : Int) := (by omega); have q331 : 0 < (l0.length : Int) := of_decide_eq_true (by first | (with_reducible assumption) | assumption); obtain ⟨ad331, A331_4, c331_4, e331, hx331_0, hx331_1, hx331_2, hx331_3, hx331_4, hl331_4, hi331_4⟩ := at_T36 (Kd.V_reads' HO0.out).2.2 0 p331 q331; (try rw [← Nbq9.out] at hx331_1); cases e331; obtain ⟨ce331, hce331, hMe331, hcc331⟩ := Kd.V_get HO0.out z36 0 p331 (by first | exact q331 | exact of_decide_eq_true (by first | (with_reducible assumption) | assumption) | (have e_ := (Kd.V_reads' HO0.out).1; omega)); obtain ⟨ua331_4, uc331_4, rfl, ul331_4, ge331_4⟩ := k36_openF hMe331; have hv331_4 := hcc331 4 _ rfl; rw [add_field _ _ 4 (by omega)] at hv331_4; replace hv331_4 := Option.some.inj (hv331_4.symm.trans hx331_4); injection hv331_4 with hva_ hvn_ hvc_; rw [hva_] at ge331_4; rw [hvc_] at ul331_4; have HL331_4 := zaqan (show Kd.V k74 74 _ w.heap.size _ _ ((rd_T36 l0 0).f4) from Kd.V_mk ul331_4 ge331_4); clear hva_ hvn_ hvc_ ge331_4 ul331_4; clear hcc331 hce331; have qi331 : (0 < l0.length) = True := eq_true (by omega); (try rw [show ((0 : Int)).toNat = 0 from rfl] at hx331_0); (try rw [show 0 * 5 = 0 from rfl] at hx331_0); (try rw [Addr.add_zero'] at hx331_0); (try rw [show ((0 : Int)).toNat = 0 from rfl] at hx331_1); (try rw [show 0 * 5 = 0 from rfl] at hx331_1); (try rw [Addr.add_zero'] at hx331_1); (try rw [show ((0 : Int)).toNat = 0 from rfl] at hx331_2); (try rw [show 0 * 5 = 0 from rfl] at hx331_2); (try rw [Addr.add_zero'] at hx331_2); (try rw [show ((0 : Int)).toNat = 0 from rfl] at hx331_3); (try rw [show 0 * 5 = 0 from rfl] at hx331_3); (try rw [Addr.add_zero'] at hx331_3); (try rw [show ((0 : Int)).toNat = 0 from rfl] at hx331_4); (try rw [show 0 * 5 = 0 from rfl] at hx331_4); (try rw [Addr.add_zero'] at hx331_4); have HR331_4 := zaqan hi331_4; have HC331_4 := zaqan hl331_4; clear hi331_4 hl331_4; replace p331 := eq_true p331; replace q331 := eq_true q331; have p332 : 0 ≤ (0 : Int) := (by omega); have q332 : 0 < (l0.length : Int) := of_decide_eq_true (by first | (with_reducible assumption) | assumption); obtain ⟨ad332, A332_4, c332_4, e332, hx332_0, hx332_1, hx332_2, hx332_3, hx332_4, hl332_4, hi332_4⟩ := at_T36 (Kd.V_reads' HO0.out).2.2 0 p332 q332; (try rw [← Nbq9.out] at hx332_1); obtain rfl : ad331 = ad332 := (by injection e332); obtain ⟨ce332, hce332, hMe332, hcc332⟩ := Kd.V_get HO0.out z36 0 p332 (by first | exact q332 | exact of_decide_eq_true (by first | (with_reducible assumption) | assumption) | (have e_ := (Kd.V_reads' HO0.out).1; omega)); obtain ⟨ua332_4, uc332_4, rfl, ul332_4, ge332_4⟩ := k36_openF hMe332; have hv332_4 := hcc332 4 _ rfl; rw [add_field _ _ 4 (by omega)] at hv332_4; replace hv332_4 := Option.some.inj (hv332_4.symm.trans hx332_4); injection hv332_4 with hva_ hvn_ hvc_; rw [hva_] at ge332_4; rw [hvc_] at ul332_4; have HL332_4 := zaqan (show Kd.V k74 74 _ w.heap.size _ _ ((rd_T36 l0 0).f4) from Kd.V_mk ul332_4 ge332_4); clear hva_ hvn_ hvc_ ge332_4 ul332_4; clear hcc332 hce332; have qi332 : (0 < l0.length) = True := eq_true (by omega); (try rw [show ((0 : Int)).toNat = 0 from rfl] at hx332_0); (try rw [show 0 * 5 = 0 from rfl] at hx332_0); (try rw [Addr.add_zero'] at hx332_0); (try rw [show ((0 : Int)).toNat = 0 from rfl] at hx332_1); (try rw [show 0 * 5 = 0 from rfl] at hx332_1); (try rw [Addr.add_zero'] at hx332_1); (try rw [show ((0 : Int)).toNat = 0 from rfl] at hx332_2); (try rw [show 0 * 5 = 0 from rfl] at hx332_2); (try rw [Addr.add_zero'] at hx332_2); (try rw [show ((0 : Int)).toNat = 0 from rfl] at hx332_3); (try rw [show 0 * 5 = 0 from rfl] at hx332_3); (try rw [Addr.add_zero'] at hx332_3); (try rw [show ((0 : Int)).toNat = 0 from rfl] at hx332_4); (try rw [show 0 * 5 = 0 from rfl] at hx332_4); (try rw [Addr.add_zero'] at hx332_4); have HR332_4 := zaqan hi332_4; have HC332_4 := zaqan hl332_4; clear hi332_4 hl332_4; replace p332 := eq_true p332; replace q332 := eq_true q332; have ea_ := Option.some.inj (hx331_4.symm.trans hx332_4); injection ea_ with ea_ en_ ec_; subst ea_; subst ec_; clear en_; have zaqcl : w15.cell? ⟨zaqar, 0, none⟩ = some (.int .i64 0) := (zaqai zaqap.out 0).trans rfl; have zaqcm : w15.cell? ⟨zaqar, 1, none⟩ = some (.bool false) := (zaqai zaqap.out 1).trans rfl; have zaqdu : w15.cell? ⟨zaqar, 2, none⟩ = some (.int .i64 0) := (zaqai zaqap.out 2).trans rfl; have zaqdv : w15.cell? ⟨zaqar, 3, none⟩ = some (.string (⟨#[]⟩ : ByteArray)) := (zaqai zaqap.out 3).trans rfl; have zaqdw : w15.cell? ⟨zaqar, 4, none⟩ = some (.slice none 0 0) := (zaqai zaqap.out 4).trans rfl; have zaqcn := zaqaj zaqap.out 0; have zaqco := zaqaj zaqap.out 1; have zaqdx := zaqaj zaqap.out 2; have zaqdy := zaqaj zaqap.out 3; have zaqdz := zaqaj zaqap.out 4))
     refine bodyPost_ret (results_ct rfl _ _ zaqar 36 #[.int .i64 ((rd_T36 l0 0).f0), .bool false, .int .i64 ((rd_T36 l0 0).f2), .string ((rd_T36 l0 0).f3), .slice A331_4 ((rd_T36 l0 0).f4).length c331_4] (0, 0) _ rfl (by (with_reducible repeat (first | refine zaqab ?_ _ | refine zaqad ?_ | refine zaqac ?_ _)); refine blk_put (cs := #[.int .i64 ((rd_T36 l0 0).f0), .bool false, .int .i64 ((rd_T36 l0 0).f2), .string ((rd_T36 l0 0).f3), .slice none 0 0]) ?_ 4 _ rfl; (with_reducible repeat (first | refine zaqab ?_ _ | refine zaqad ?_ | refine zaqac ?_ _)); refine blk_put (cs := #[.int .i64 ((rd_T36 l0 0).f0), .bool false, .int .i64 ((rd_T36 l0 0).f2), .string (⟨#[]⟩ : ByteArray), .slice none 0 0]) ?_ 3 _ rfl; (with_reducible repeat (first | refine zaqab ?_ _ | refine zaqad ?_ | refine zaqac ?_ _)); refine blk_put (cs := #[.int .i64 ((rd_T36 l0 0).f0), .bool false, .int .i64 0, .string (⟨#[]⟩ : ByteArray), .slice none 0 0]) ?_ 2 _ rfl; (with_reducible repeat (first | refine zaqab ?_ _ | refine zaqad ?_ | refine zaqac ?_ _)); refine blk_put (cs := #[.int .i64 ((rd_T36 l0 0).f0), .bool false, .int .i64 0, .string (⟨#[]⟩ : ByteArray), .slice none 0 0]) ?_ 1 _ rfl; (with_reducible repeat (first | refine zaqab ?_ _ | refine zaqad ?_ | refine zaqac ?_ _)); refine blk_put (cs := #[.int .i64 0, .bool false, .int .i64 0, .string (⟨#[]⟩ : ByteArray), .slice none 0 0]) ?_ 0 _ rfl; (with_reducible repeat (first | refine zaqab ?_ _ | refine zaqad ?_ | refine zaqac ?_ _)); exact zaqap.out) Try.underlying36 rfl (by kernel_rfl)) rfl ?_
     exact ⟨_, by first | rfl | (simp [errW_none, errW_some] <;> rfl) | (simp [*, errW_none, errW_some] <;> rfl), by (with_reducible repeat (first | apply Kd.V_alloc | apply Kd.V_drewN | apply Kd.V_drew)); exact Kd.V_mono (Kd.V_far (p := ⟨zaqar, 4, none⟩) (Kd.V_far (p := ⟨zaqar, 3, none⟩) (Kd.V_far (p := ⟨zaqar, 2, none⟩) (Kd.V_far (p := ⟨zaqar, 1, none⟩) (Kd.V_far (p := ⟨zaqar, 0, none⟩) (Kd.V_mono HL332_4.out (fun k_ hk => (⟨hk, hk.2⟩ : _ ∧ k_ ≠ zaqar))) (fun _ hk => hk.2) (.int .i64 ((rd_T36 l0 0).f0))) (fun _ hk => hk.2) (.bool false)) (fun _ hk => hk.2) (.int .i64 ((rd_T36 l0 0).f2))) (fun _ hk => hk.2) (.string ((rd_T36 l0 0).f3))) (fun _ hk => hk.2) (.slice A331_4 ((rd_T36 l0 0).f4).length c331_4)) (fun _ hk => hk.1.1), by repeat (first | (with_reducible first | exact HB.out | apply zaqah | apply zaqaf | apply zaqag | refine zaqae ?_ zaqbf.out) | exact HB.out)⟩
   ·rw [if_neg c8] at H
    exact absurd H (by simp)
 ·replace c3 := Bool.eq_false_iff.mpr c3
  subst c3
  have H1 : (some (0, false, 0, (⟨#[]⟩ : ByteArray), ([] : List (S74)), 1)) = some (r1, r2, r3, r4, r5, r6) := by rw [if_neg (show ¬ (false = true) by decide)] at H; exact H
  clear H
  have H := H1
  clear H1
  simp only [Option.some.injEq, Prod.mk.injEq] at H
  obtain ⟨rfl, rfl, rfl, rfl, rfl, rfl⟩ := H
  go_enter Try.func25, Try.ntmps25
  go_wp2_with (first | ((with_reducible refine gate_dst (N := 2) rfl ?_); refine box_event ?hg (N := 2) ?hd (cs := #[.int .i64 0, .bool false, .int .i64 0, .string (⟨#[]⟩ : ByteArray), .slice none 0 0]) (t := 36) ?hr ?_; (case hd => rfl); (case hg => rfl); (case hr => first | (go_simp; done) | (go_simp; rfl)); intro zaqar hg w17 hbox hb; have n0_ := zaqan (Kd.V_below (Kd.V_elderB (by (with_reducible repeat (first | apply Kd.V_alloc | apply Kd.V_drewN | apply Kd.V_drew)); exact HO0.out) zaqar (Nat.le_of_eq hg.symm)) hb); have n1_ := zaqan (below_step (by repeat (first | (with_reducible first | exact HB.out | apply zaqah | apply zaqaf | apply zaqag) | exact HB.out)) hb); have n2_ := zaqan (hbox); have n3_ := zaqan ((by rw [hg]; exact (below_size (by repeat (first | (with_reducible first | exact HB.out | apply zaqah | apply zaqaf | apply zaqag) | exact HB.out))) : w.heap.size ≤ zaqar)); have n4_ := zaqan ((by rw [hg]; exact (below_size (by repeat (first | (with_reducible first | exact HB.out | apply zaqah | apply zaqaf | apply zaqag) | exact HB.out))) : w.heap.size ≤ zaqar)); clear HO0; clear HB; have HO0 := n0_; have HB := n1_; have zaqap := n2_; have zaqbm := n3_; have zaqbf := n4_; clear n0_ n1_ n2_ n3_ n4_; clear hb hbox hg) | ((with_reducible refine gate_callee (f := 40) rfl ?_); refine goesL_ (some 5) rfl rfl Try.func40 (by kernel_rfl) rfl #[.slice A0 l0.length c0] rfl (by (try simp only [zaqak, zaqal, zaqam]); first | done | rfl) ?_; (with_reducible refine (stowageref13_May.calls k _ _ l0 false _ ?side1 ?side2 A2.out).mono ?_); (case side1 => repeat (first | exact (Kd.V_reads' HO0.out).2.2 | (with_reducible refine Kd.C_alloc ?_ _) | (with_reducible refine Kd.C_drewN ?_ _) | (with_reducible refine Kd.C_drew ?_))); (case side2 => exact (Kd.V_reads' HO0.out).2.1); rintro e w18 ⟨rfl, hb⟩; refine ⟨_, rfl, ?_⟩; have n0_ := zaqan (Kd.V_below (by (with_reducible repeat (first | apply Kd.V_alloc | apply Kd.V_drewN | apply Kd.V_drew)); exact HO0.out) hb); have n1_ := zaqan (blk_below (g := zaqar) (o := .cells #[.int .i64 0, .bool false, .int .i64 0, .string (⟨#[]⟩ : ByteArray), .slice none 0 0] 36 (0, 0)) (by (with_reducible repeat (first | refine zaqab ?_ _ | refine zaqad ?_ | refine zaqac ?_ _)); exact zaqap.out) hb); have n2_ := zaqan (below_step (by repeat (first | (with_reducible first | exact HB.out | apply zaqah | apply zaqaf | apply zaqag | refine zaqae ?_ zaqbf.out) | exact HB.out)) hb); clear HO0; clear zaqap; clear HB; have HO0 := n0_; have zaqap := n1_; have HB := n2_; clear n0_ n1_ n2_; (try clear hb); (try clear hk); (try clear hi); have zaqcb : w18.cell? ⟨zaqar, 0, none⟩ = some (.int .i64 0) := (zaqai zaqap.out 0).trans rfl; have zaqcc : w18.cell? ⟨zaqar, 1, none⟩ = some (.bool false) := (zaqai zaqap.out 1).trans rfl; have zaqcd : w18.cell? ⟨zaqar, 2, none⟩ = some (.int .i64 0) := (zaqai zaqap.out 2).trans rfl; have zaqce : w18.cell? ⟨zaqar, 3, none⟩ = some (.string (⟨#[]⟩ : ByteArray)) := (zaqai zaqap.out 3).trans rfl; have zaqcf : w18.cell? ⟨zaqar, 4, none⟩ = some (.slice none 0 0) := (zaqai zaqap.out 4).trans rfl; have zaqcg := zaqaj zaqap.out 0; have zaqch := zaqaj zaqap.out 1; have zaqci := zaqaj zaqap.out 2; have zaqcj := zaqaj zaqap.out 3; have zaqck := zaqaj zaqap.out 4))
  refine bodyPost_ret (results_ct rfl _ _ zaqar 36 #[.int .i64 0, .bool false, .int .i64 0, .string (⟨#[]⟩ : ByteArray), .slice none 0 0] (0, 0) _ rfl (by (with_reducible repeat (first | refine zaqab ?_ _ | refine zaqad ?_ | refine zaqac ?_ _)); refine blk_put (cs := #[.int .i64 0, .bool false, .int .i64 0, .string (⟨#[]⟩ : ByteArray), .slice none 0 0]) ?_ 4 _ rfl; (with_reducible repeat (first | refine zaqab ?_ _ | refine zaqad ?_ | refine zaqac ?_ _)); refine blk_put (cs := #[.int .i64 0, .bool false, .int .i64 0, .string (⟨#[]⟩ : ByteArray), .slice none 0 0]) ?_ 3 _ rfl; (with_reducible repeat (first | refine zaqab ?_ _ | refine zaqad ?_ | refine zaqac ?_ _)); refine blk_put (cs := #[.int .i64 0, .bool false, .int .i64 0, .string (⟨#[]⟩ : ByteArray), .slice none 0 0]) ?_ 2 _ rfl; (with_reducible repeat (first | refine zaqab ?_ _ | refine zaqad ?_ | refine zaqac ?_ _)); refine blk_put (cs := #[.int .i64 0, .bool false, .int .i64 0, .string (⟨#[]⟩ : ByteArray), .slice none 0 0]) ?_ 1 _ rfl; (with_reducible repeat (first | refine zaqab ?_ _ | refine zaqad ?_ | refine zaqac ?_ _)); refine blk_put (cs := #[.int .i64 0, .bool false, .int .i64 0, .string (⟨#[]⟩ : ByteArray), .slice none 0 0]) ?_ 0 _ rfl; (with_reducible repeat (first | refine zaqab ?_ _ | refine zaqad ?_ | refine zaqac ?_ _)); exact zaqap.out) Try.underlying36 rfl (by kernel_rfl)) rfl ?_
  exact ⟨_, by first | rfl | (simp [errW_none, errW_some] <;> rfl) | (simp [*, errW_none, errW_some] <;> rfl), (Kd.V_nil _ _ _ _ _), by repeat (first | (with_reducible first | exact HB.out | apply zaqah | apply zaqaf | apply zaqag | refine zaqae ?_ zaqbf.out) | exact HB.out)⟩

/-! ### stowageref13_Find: function 26 -/
def stowageref13_Find.l0 : Nat → List (S36) → Int → Int → Option (Int × Bool × Int × ByteArray × (List (S74)) × Int)
 | 0, _, _, _ => none
 | k + 1, x0, x1, x6 => if x6 < (x0.length : Int) then (if 0 ≤ x6 then (if ((rd_T36 x0 x6).f0) = x1 then (some ((rd_T36 x0 x6).f0, (rd_T36 x0 x6).f1, (rd_T36 x0 x6).f2, (rd_T36 x0 x6).f3, (rd_T36 x0 x6).f4, 0)) else (stowageref13_Find.l0 k x0 x1 (wrap64 (x6 + 1)))) else (none)) else (some (0, false, 0, (⟨#[]⟩ : ByteArray), ([] : List (S74)), 4))
def stowageref13_Find.f (k : Nat) (l0 : List (S36)) (a1 : Int) : Option (Int × Bool × Int × ByteArray × (List (S74)) × Int) := (stowageref13_May.f k l0).bind fun t334 => (if t334 = true then (stowageref13_Find.l0 k l0 a1 0) else (some (0, false, 0, (⟨#[]⟩ : ByteArray), ([] : List (S74)), 1)))
set_option maxHeartbeats 8000000 in
set_option maxRecDepth 100000 in
theorem stowageref13_Find.calls (k : Nat) (P0_ : Nat → Prop) (A0 : Option Addr) (c0 : Nat) (l0 : List (S36)) (a1 : Int) (r1 : Int) (r2 : Bool) (r3 : Int) (r4 : ByteArray) (r5 : List (S74)) (r6 : Int) (w : World) (hs0 : Kd.V k36 36 w w.heap.size (fun k_ => P0_ k_) (.slice A0 l0.length c0) l0) (h : stowageref13_Find.f k l0 a1 = some (r1, r2, r3, r4, r5, r6)) :
  Calls Try.prog 26 #[.slice A0 l0.length c0, .int .i64 a1] w fun e w' => ∃ v4_ : Value, e = .returned (.tuple #[.agg #[.int .i64 r1, .bool r2, .int .i64 r3, .string r4, v4_], .int .i64 r6]) ∧ Kd.V k74 74 w' w.heap.size (fun k_ => (P0_ k_ ∨ w.heap.size ≤ k_)) v4_ r5 ∧ Below w.heap.size w w' := by
 have hu36 := Try.underlying36
 have HO0 := zaqan (show Kd.V k36 36 w w.heap.size (fun k_ => (P0_ k_ ∨ w.heap.size ≤ k_)) (.slice A0 l0.length c0) l0 from Kd.V_mono hs0 (fun k_ hk => .inl hk))
 have HB := zaqan (Below.refl w.heap.size w)
 have H : ((stowageref13_May.f k l0).bind fun t334 => (if t334 = true then (stowageref13_Find.l0 k l0 a1 0) else (some (0, false, 0, (⟨#[]⟩ : ByteArray), ([] : List (S74)), 1)))) = some (r1, r2, r3, r4, r5, r6) := h
 clear h
 replace H := Option.bind_eq_some_iff.mp H
 obtain ⟨t334, A30, H⟩ := H
 replace H : (if t334 = true then (stowageref13_Find.l0 k l0 a1 0) else (some (0, false, 0, (⟨#[]⟩ : ByteArray), ([] : List (S74)), 1))) = some (r1, r2, r3, r4, r5, r6) := H
 have A3 := zaqan A30
 clear A30
 by_cases c4 : t334 = true
 ·subst c4
  have H1 : (stowageref13_Find.l0 k l0 a1 0) = some (r1, r2, r3, r4, r5, r6) := by rw [if_pos rfl] at H; exact H
  clear H
  have H := H1
  clear H1
  have H' := zaqan H
  clear H
  go_enter Try.func26, Try.ntmps26
  go_wp2_with (first | ((with_reducible refine gate_dst (N := 4) rfl ?_); refine box_event ?hg (N := 4) ?hd (cs := #[.int .i64 0, .bool false, .int .i64 0, .string (⟨#[]⟩ : ByteArray), .slice none 0 0]) (t := 36) ?hr ?_; (case hd => rfl); (case hg => rfl); (case hr => first | (go_simp; done) | (go_simp; rfl)); intro zaqav hg w5 hbox hb; have n0_ := zaqan (Kd.V_below (Kd.V_elderB (by (with_reducible repeat (first | apply Kd.V_alloc | apply Kd.V_drewN | apply Kd.V_drew)); exact HO0.out) zaqav (Nat.le_of_eq hg.symm)) hb); have n1_ := zaqan (below_step (by repeat (first | (with_reducible first | exact HB.out | apply zaqah | apply zaqaf | apply zaqag) | exact HB.out)) hb); have n2_ := zaqan (hbox); have n3_ := zaqan ((by rw [hg]; exact (below_size (by repeat (first | (with_reducible first | exact HB.out | apply zaqah | apply zaqaf | apply zaqag) | exact HB.out))) : w.heap.size ≤ zaqav)); have n4_ := zaqan ((by rw [hg]; exact (below_size (by repeat (first | (with_reducible first | exact HB.out | apply zaqah | apply zaqaf | apply zaqag) | exact HB.out))) : w.heap.size ≤ zaqav)); clear HO0; clear HB; have HO0 := n0_; have HB := n1_; have zaqas := n2_; have zaqcz := n3_; have zaqbi := n4_; clear n0_ n1_ n2_ n3_ n4_; clear hb hbox hg) | ((with_reducible refine gate_callee (f := 40) rfl ?_); refine goesL_ (some 8) rfl rfl Try.func40 (by kernel_rfl) rfl #[.slice A0 l0.length c0] rfl (by (try simp only [zaqak, zaqal, zaqam]); first | done | rfl) ?_; (with_reducible refine (stowageref13_May.calls k _ _ l0 true _ ?side1 ?side2 A3.out).mono ?_); (case side1 => repeat (first | exact (Kd.V_reads' HO0.out).2.2 | (with_reducible refine Kd.C_alloc ?_ _) | (with_reducible refine Kd.C_drewN ?_ _) | (with_reducible refine Kd.C_drew ?_))); (case side2 => exact (Kd.V_reads' HO0.out).2.1); rintro e w6 ⟨rfl, hb⟩; refine ⟨_, rfl, ?_⟩; have n0_ := zaqan (Kd.V_below (by (with_reducible repeat (first | apply Kd.V_alloc | apply Kd.V_drewN | apply Kd.V_drew)); exact HO0.out) hb); have n1_ := zaqan (blk_below (g := zaqav) (o := .cells #[.int .i64 0, .bool false, .int .i64 0, .string (⟨#[]⟩ : ByteArray), .slice none 0 0] 36 (0, 0)) (by (with_reducible repeat (first | refine zaqab ?_ _ | refine zaqad ?_ | refine zaqac ?_ _)); exact zaqas.out) hb); have n2_ := zaqan (below_step (by repeat (first | (with_reducible first | exact HB.out | apply zaqah | apply zaqaf | apply zaqag | refine zaqae ?_ zaqbi.out) | exact HB.out)) hb); clear HO0; clear zaqas; clear HB; have HO0 := n0_; have zaqas := n1_; have HB := n2_; clear n0_ n1_ n2_; (try clear hb); (try clear hk); (try clear hi)))
  go_loopg [6] k (fun kq v6 w' => ∃ (zaqat : Int) (zaqbd : Int) (zaqbc : Bool) (zaqba : Int) (zaqax : ByteArray), v6 = .int .i64 zaqat ∧ Aside0 (stowageref13_Find.l0 kq l0 a1 zaqat = some (r1, r2, r3, r4, r5, r6)) ∧ Aside0 (kq ≤ k) ∧ Aside0 (Kd.V k36 36 w' w.heap.size (fun k_ => (P0_ k_ ∨ w.heap.size ≤ k_) ∧ k_ ≠ zaqav) (.slice A0 l0.length c0) l0) ∧ Aside0 (w'.heap[zaqav]? = some (.cells #[.int .i64 zaqbd, .bool zaqbc, .int .i64 zaqba, .string zaqax, (.slice none 0 0)] 36 (0, 0))) ∧ Aside0 (Below w.heap.size w w'))
  case atStart => exact ⟨(0), (0), (false), (0), ((⟨#[]⟩ : ByteArray)), (by first | rfl | (simp; done) | (simp [*]; done)), H', ⟨Nat.le_refl _⟩, ⟨by (with_reducible repeat (first | apply Kd.V_alloc | apply Kd.V_drewN | apply Kd.V_drew)); exact HO0.out⟩, ⟨by (with_reducible repeat (first | refine zaqab ?_ _ | refine zaqad ?_ | refine zaqac ?_ _)); exact zaqas.out⟩, ⟨by repeat (first | (with_reducible first | exact HB.out | apply zaqah | apply zaqaf | apply zaqag | refine zaqae ?_ zaqbi.out) | exact HB.out)⟩⟩
  case round =>
   clear H'
   try clear c2
   try clear p2
   try clear c4
   obtain ⟨zaqat, zaqbd, zaqbc, zaqba, zaqax, rfl, HA, HK1, HO_0, zaqas, HB⟩ := hrel
   cases gk with
   | zero => exact absurd HA.out (by simp [stowageref13_Find.l0])
   | succ k1 =>
    have H := HA.out
    clear HA
    simp only [stowageref13_Find.l0] at H
    by_cases c7 : zaqat < (l0.length : Int)
    ·rw [if_pos c7] at H
     have c7b0 : decide (zaqat < (l0.length : Int)) = true := decide_eq_true c7
     clear c7
     by_cases c8 : 0 ≤ zaqat
     ·rw [if_pos c8] at H
      have c8b0 : decide (0 ≤ zaqat) = true := decide_eq_true c8
      clear c8
      by_cases c9 : ((rd_T36 l0 zaqat).f0) = a1
      ·rw [if_pos c9] at H
       have c9b0 : (((rd_T36 l0 zaqat).f0) == a1) = true := beq_iff_eq.mpr c9
       have c9b1 : (((rd_T36 l0 zaqat).f0) != a1) = false := bne_eq_false_iff_eq.mpr c9
       clear c9
       simp only [Option.some.injEq, Prod.mk.injEq] at H
       obtain ⟨rfl, rfl, rfl, rfl, rfl, rfl⟩ := H
       have p335 : 0 ≤ (zaqat : Int) := of_decide_eq_true (by first | (with_reducible assumption) | assumption)
       have q335 : zaqat < (l0.length : Int) := of_decide_eq_true (by first | (with_reducible assumption) | assumption)
       obtain ⟨ad335, A335_4, c335_4, e335, hx335_0, hx335_1, hx335_2, hx335_3, hx335_4, hl335_4, hi335_4⟩ := at_T36 (Kd.V_reads' HO_0.out).2.2 zaqat p335 q335
       cases e335
       obtain ⟨ce335, hce335, hMe335, hcc335⟩ := Kd.V_get HO_0.out z36 zaqat p335 (by first | exact q335 | exact of_decide_eq_true (by first | (with_reducible assumption) | assumption) | (have e_ := (Kd.V_reads' HO_0.out).1; omega))
       obtain ⟨ua335_4, uc335_4, rfl, ul335_4, ge335_4⟩ := k36_openF hMe335
       have hv335_4 := hcc335 4 _ rfl
       rw [add_field _ _ 4 (by omega)] at hv335_4
       replace hv335_4 := Option.some.inj (hv335_4.symm.trans hx335_4)
       injection hv335_4 with hva_ hvn_ hvc_
       rw [hva_] at ge335_4
       rw [hvc_] at ul335_4
       have HL335_4 := zaqan (show Kd.V k74 74 _ w.heap.size _ _ ((rd_T36 l0 zaqat).f4) from Kd.V_mk ul335_4 ge335_4)
       clear hva_ hvn_ hvc_ ge335_4 ul335_4
       clear hcc335 hce335
       have HR335_4 := zaqan hi335_4
       have HC335_4 := zaqan hl335_4
       clear hi335_4 hl335_4
       replace p335 := eq_true p335
       replace q335 := eq_true q335
       have p336 : 0 ≤ (zaqat : Int) := of_decide_eq_true (by first | (with_reducible assumption) | assumption)
       have q336 : zaqat < (l0.length : Int) := of_decide_eq_true (by first | (with_reducible assumption) | assumption)
       obtain ⟨ad336, A336_4, c336_4, e336, hx336_0, hx336_1, hx336_2, hx336_3, hx336_4, hl336_4, hi336_4⟩ := at_T36 (Kd.V_reads' HO_0.out).2.2 zaqat p336 q336
       obtain rfl : ad335 = ad336 := (by injection e336)
       obtain ⟨ce336, hce336, hMe336, hcc336⟩ := Kd.V_get HO_0.out z36 zaqat p336 (by first | exact q336 | exact of_decide_eq_true (by first | (with_reducible assumption) | assumption) | (have e_ := (Kd.V_reads' HO_0.out).1; omega))
       obtain ⟨ua336_4, uc336_4, rfl, ul336_4, ge336_4⟩ := k36_openF hMe336
       have hv336_4 := hcc336 4 _ rfl
       rw [add_field _ _ 4 (by omega)] at hv336_4
       replace hv336_4 := Option.some.inj (hv336_4.symm.trans hx336_4)
       injection hv336_4 with hva_ hvn_ hvc_
       rw [hva_] at ge336_4
       rw [hvc_] at ul336_4
       have HL336_4 := zaqan (show Kd.V k74 74 _ w.heap.size _ _ ((rd_T36 l0 zaqat).f4) from Kd.V_mk ul336_4 ge336_4)
       clear hva_ hvn_ hvc_ ge336_4 ul336_4
       clear hcc336 hce336
       have HR336_4 := zaqan hi336_4
       have HC336_4 := zaqan hl336_4
       clear hi336_4 hl336_4
       replace p336 := eq_true p336
       replace q336 := eq_true q336
       have ea_ := Option.some.inj (hx335_4.symm.trans hx336_4)
       injection ea_ with ea_ en_ ec_
       subst ea_
       subst ec_
       clear en_
       have zaqea : wr.cell? ⟨zaqav, 0, none⟩ = some (.int .i64 zaqbd) := (zaqai zaqas.out 0).trans rfl
       have zaqeb : wr.cell? ⟨zaqav, 1, none⟩ = some (.bool zaqbc) := (zaqai zaqas.out 1).trans rfl
       have zaqec : wr.cell? ⟨zaqav, 2, none⟩ = some (.int .i64 zaqba) := (zaqai zaqas.out 2).trans rfl
       have zaqed : wr.cell? ⟨zaqav, 3, none⟩ = some (.string zaqax) := (zaqai zaqas.out 3).trans rfl
       have zaqee : wr.cell? ⟨zaqav, 4, none⟩ = some (.slice none 0 0) := (zaqai zaqas.out 4).trans rfl
       have zaqef := zaqaj zaqas.out 0
       have zaqeg := zaqaj zaqas.out 1
       have zaqeh := zaqaj zaqas.out 2
       have zaqei := zaqaj zaqas.out 3
       have zaqej := zaqaj zaqas.out 4
       go_wp2
       refine bodyPost_ret (results_ct rfl _ _ zaqav 36 #[.int .i64 ((rd_T36 l0 zaqat).f0), .bool ((rd_T36 l0 zaqat).f1), .int .i64 ((rd_T36 l0 zaqat).f2), .string ((rd_T36 l0 zaqat).f3), .slice A335_4 ((rd_T36 l0 zaqat).f4).length c335_4] (0, 0) _ rfl (by (with_reducible repeat (first | refine zaqab ?_ _ | refine zaqad ?_ | refine zaqac ?_ _)); refine blk_put (cs := #[.int .i64 ((rd_T36 l0 zaqat).f0), .bool ((rd_T36 l0 zaqat).f1), .int .i64 ((rd_T36 l0 zaqat).f2), .string ((rd_T36 l0 zaqat).f3), .slice none 0 0]) ?_ 4 _ rfl; (with_reducible repeat (first | refine zaqab ?_ _ | refine zaqad ?_ | refine zaqac ?_ _)); refine blk_put (cs := #[.int .i64 ((rd_T36 l0 zaqat).f0), .bool ((rd_T36 l0 zaqat).f1), .int .i64 ((rd_T36 l0 zaqat).f2), .string zaqax, .slice none 0 0]) ?_ 3 _ rfl; (with_reducible repeat (first | refine zaqab ?_ _ | refine zaqad ?_ | refine zaqac ?_ _)); refine blk_put (cs := #[.int .i64 ((rd_T36 l0 zaqat).f0), .bool ((rd_T36 l0 zaqat).f1), .int .i64 zaqba, .string zaqax, .slice none 0 0]) ?_ 2 _ rfl; (with_reducible repeat (first | refine zaqab ?_ _ | refine zaqad ?_ | refine zaqac ?_ _)); refine blk_put (cs := #[.int .i64 ((rd_T36 l0 zaqat).f0), .bool zaqbc, .int .i64 zaqba, .string zaqax, .slice none 0 0]) ?_ 1 _ rfl; (with_reducible repeat (first | refine zaqab ?_ _ | refine zaqad ?_ | refine zaqac ?_ _)); refine blk_put (cs := #[.int .i64 zaqbd, .bool zaqbc, .int .i64 zaqba, .string zaqax, .slice none 0 0]) ?_ 0 _ rfl; (with_reducible repeat (first | refine zaqab ?_ _ | refine zaqad ?_ | refine zaqac ?_ _)); exact zaqas.out) Try.underlying36 rfl (by kernel_rfl)) rfl ?_
       exact ⟨_, by first | rfl | (simp [errW_none, errW_some] <;> rfl) | (simp [*, errW_none, errW_some] <;> rfl), by (with_reducible repeat (first | apply Kd.V_alloc | apply Kd.V_drewN | apply Kd.V_drew)); exact Kd.V_mono (Kd.V_far (p := ⟨zaqav, 4, none⟩) (Kd.V_far (p := ⟨zaqav, 3, none⟩) (Kd.V_far (p := ⟨zaqav, 2, none⟩) (Kd.V_far (p := ⟨zaqav, 1, none⟩) (Kd.V_far (p := ⟨zaqav, 0, none⟩) (Kd.V_mono HL336_4.out (fun k_ hk => (⟨hk, hk.2⟩ : _ ∧ k_ ≠ zaqav))) (fun _ hk => hk.2) (.int .i64 ((rd_T36 l0 zaqat).f0))) (fun _ hk => hk.2) (.bool ((rd_T36 l0 zaqat).f1))) (fun _ hk => hk.2) (.int .i64 ((rd_T36 l0 zaqat).f2))) (fun _ hk => hk.2) (.string ((rd_T36 l0 zaqat).f3))) (fun _ hk => hk.2) (.slice A335_4 ((rd_T36 l0 zaqat).f4).length c335_4)) (fun _ hk => hk.1.1), by repeat (first | (with_reducible first | exact HB.out | apply zaqah | apply zaqaf | apply zaqag | refine zaqae ?_ zaqbi.out) | exact HB.out)⟩
      ·rw [if_neg c9] at H
       have c9b0 : (((rd_T36 l0 zaqat).f0) == a1) = false := beq_eq_false_iff_ne.mpr c9
       have c9b1 : (((rd_T36 l0 zaqat).f0) != a1) = true := bne_iff_ne.mpr c9
       have H' := zaqan H
       clear H
       have p335 : 0 ≤ (zaqat : Int) := of_decide_eq_true (by first | (with_reducible assumption) | assumption)
       have q335 : zaqat < (l0.length : Int) := of_decide_eq_true (by first | (with_reducible assumption) | assumption)
       obtain ⟨ad335, A335_4, c335_4, e335, hx335_0, hx335_1, hx335_2, hx335_3, hx335_4, hl335_4, hi335_4⟩ := at_T36 (Kd.V_reads' HO_0.out).2.2 zaqat p335 q335
       cases e335
       obtain ⟨ce335, hce335, hMe335, hcc335⟩ := Kd.V_get HO_0.out z36 zaqat p335 (by first | exact q335 | exact of_decide_eq_true (by first | (with_reducible assumption) | assumption) | (have e_ := (Kd.V_reads' HO_0.out).1; omega))
       obtain ⟨ua335_4, uc335_4, rfl, ul335_4, ge335_4⟩ := k36_openF hMe335
       have hv335_4 := hcc335 4 _ rfl
       rw [add_field _ _ 4 (by omega)] at hv335_4
       replace hv335_4 := Option.some.inj (hv335_4.symm.trans hx335_4)
       injection hv335_4 with hva_ hvn_ hvc_
       rw [hva_] at ge335_4
       rw [hvc_] at ul335_4
       have HL335_4 := zaqan (show Kd.V k74 74 _ w.heap.size _ _ ((rd_T36 l0 zaqat).f4) from Kd.V_mk ul335_4 ge335_4)
       clear hva_ hvn_ hvc_ ge335_4 ul335_4
       clear hcc335 hce335
       have HR335_4 := zaqan hi335_4
       have HC335_4 := zaqan hl335_4
       clear hi335_4 hl335_4
       replace p335 := eq_true p335
       replace q335 := eq_true q335
       go_wp2
       go_roundg k1
       case measure => have := HK1.out; omega
       case rel => exact ⟨(wrap64 (zaqat + 1)), (zaqbd), (zaqbc), (zaqba), (zaqax), (by first | rfl | (simp; done) | (simp [*]; done)), H', ⟨by have := HK1.out; omega⟩, ⟨by (with_reducible repeat (first | apply Kd.V_alloc | apply Kd.V_drewN | apply Kd.V_drew)); exact HO_0.out⟩, ⟨by (with_reducible repeat (first | refine zaqab ?_ _ | refine zaqad ?_ | refine zaqac ?_ _)); exact zaqas.out⟩, ⟨by repeat (first | (with_reducible first | exact HB.out | apply zaqah | apply zaqaf | apply zaqag | refine zaqae ?_ zaqbi.out) | exact HB.out)⟩⟩
     ·rw [if_neg c8] at H
      exact absurd H (by simp)
    ·rw [if_neg c7] at H
     have c7b0 : decide (zaqat < (l0.length : Int)) = false := decide_eq_false c7
     clear c7
     simp only [Option.some.injEq, Prod.mk.injEq] at H
     obtain ⟨rfl, rfl, rfl, rfl, rfl, rfl⟩ := H
     have zaqek : wr.cell? ⟨zaqav, 0, none⟩ = some (.int .i64 zaqbd) := (zaqai zaqas.out 0).trans rfl
     have zaqel : wr.cell? ⟨zaqav, 1, none⟩ = some (.bool zaqbc) := (zaqai zaqas.out 1).trans rfl
     have zaqem : wr.cell? ⟨zaqav, 2, none⟩ = some (.int .i64 zaqba) := (zaqai zaqas.out 2).trans rfl
     have zaqen : wr.cell? ⟨zaqav, 3, none⟩ = some (.string zaqax) := (zaqai zaqas.out 3).trans rfl
     have zaqeo : wr.cell? ⟨zaqav, 4, none⟩ = some (.slice none 0 0) := (zaqai zaqas.out 4).trans rfl
     have zaqep := zaqaj zaqas.out 0
     have zaqeq := zaqaj zaqas.out 1
     have zaqer := zaqaj zaqas.out 2
     have zaqes := zaqaj zaqas.out 3
     have zaqet := zaqaj zaqas.out 4
     go_wp2
     refine bodyPost_ret (results_ct rfl _ _ zaqav 36 #[.int .i64 0, .bool false, .int .i64 0, .string (⟨#[]⟩ : ByteArray), .slice none 0 0] (0, 0) _ rfl (by (with_reducible repeat (first | refine zaqab ?_ _ | refine zaqad ?_ | refine zaqac ?_ _)); refine blk_put (cs := #[.int .i64 0, .bool false, .int .i64 0, .string (⟨#[]⟩ : ByteArray), .slice none 0 0]) ?_ 4 _ rfl; (with_reducible repeat (first | refine zaqab ?_ _ | refine zaqad ?_ | refine zaqac ?_ _)); refine blk_put (cs := #[.int .i64 0, .bool false, .int .i64 0, .string zaqax, .slice none 0 0]) ?_ 3 _ rfl; (with_reducible repeat (first | refine zaqab ?_ _ | refine zaqad ?_ | refine zaqac ?_ _)); refine blk_put (cs := #[.int .i64 0, .bool false, .int .i64 zaqba, .string zaqax, .slice none 0 0]) ?_ 2 _ rfl; (with_reducible repeat (first | refine zaqab ?_ _ | refine zaqad ?_ | refine zaqac ?_ _)); refine blk_put (cs := #[.int .i64 0, .bool zaqbc, .int .i64 zaqba, .string zaqax, .slice none 0 0]) ?_ 1 _ rfl; (with_reducible repeat (first | refine zaqab ?_ _ | refine zaqad ?_ | refine zaqac ?_ _)); refine blk_put (cs := #[.int .i64 zaqbd, .bool zaqbc, .int .i64 zaqba, .string zaqax, .slice none 0 0]) ?_ 0 _ rfl; (with_reducible repeat (first | refine zaqab ?_ _ | refine zaqad ?_ | refine zaqac ?_ _)); exact zaqas.out) Try.underlying36 rfl (by kernel_rfl)) rfl ?_
     exact ⟨_, by first | rfl | (simp [errW_none, errW_some] <;> rfl) | (simp [*, errW_none, errW_some] <;> rfl), (Kd.V_nil _ _ _ _ _), by repeat (first | (with_reducible first | exact HB.out | apply zaqah | apply zaqaf | apply zaqag | refine zaqae ?_ zaqbi.out) | exact HB.out)⟩
 ·replace c4 := Bool.eq_false_iff.mpr c4
  subst c4
  have H1 : (some (0, false, 0, (⟨#[]⟩ : ByteArray), ([] : List (S74)), 1)) = some (r1, r2, r3, r4, r5, r6) := by rw [if_neg (show ¬ (false = true) by decide)] at H; exact H
  clear H
  have H := H1
  clear H1
  simp only [Option.some.injEq, Prod.mk.injEq] at H
  obtain ⟨rfl, rfl, rfl, rfl, rfl, rfl⟩ := H
  go_enter Try.func26, Try.ntmps26
  go_wp2_with (first | ((with_reducible refine gate_dst (N := 4) rfl ?_); refine box_event ?hg (N := 4) ?hd (cs := #[.int .i64 0, .bool false, .int .i64 0, .string (⟨#[]⟩ : ByteArray), .slice none 0 0]) (t := 36) ?hr ?_; (case hd => rfl); (case hg => rfl); (case hr => first | (go_simp; done) | (go_simp; rfl)); intro zaqav hg w12 hbox hb; have n0_ := zaqan (Kd.V_below (Kd.V_elderB (by (with_reducible repeat (first | apply Kd.V_alloc | apply Kd.V_drewN | apply Kd.V_drew)); exact HO0.out) zaqav (Nat.le_of_eq hg.symm)) hb); have n1_ := zaqan (below_step (by repeat (first | (with_reducible first | exact HB.out | apply zaqah | apply zaqaf | apply zaqag) | exact HB.out)) hb); have n2_ := zaqan (hbox); have n3_ := zaqan ((by rw [hg]; exact (below_size (by repeat (first | (with_reducible first | exact HB.out | apply zaqah | apply zaqaf | apply zaqag) | exact HB.out))) : w.heap.size ≤ zaqav)); have n4_ := zaqan ((by rw [hg]; exact (below_size (by repeat (first | (with_reducible first | exact HB.out | apply zaqah | apply zaqaf | apply zaqag) | exact HB.out))) : w.heap.size ≤ zaqav)); clear HO0; clear HB; have HO0 := n0_; have HB := n1_; have zaqas := n2_; have zaqcz := n3_; have zaqbi := n4_; clear n0_ n1_ n2_ n3_ n4_; clear hb hbox hg) | ((with_reducible refine gate_callee (f := 40) rfl ?_); refine goesL_ (some 8) rfl rfl Try.func40 (by kernel_rfl) rfl #[.slice A0 l0.length c0] rfl (by (try simp only [zaqak, zaqal, zaqam]); first | done | rfl) ?_; (with_reducible refine (stowageref13_May.calls k _ _ l0 false _ ?side1 ?side2 A3.out).mono ?_); (case side1 => repeat (first | exact (Kd.V_reads' HO0.out).2.2 | (with_reducible refine Kd.C_alloc ?_ _) | (with_reducible refine Kd.C_drewN ?_ _) | (with_reducible refine Kd.C_drew ?_))); (case side2 => exact (Kd.V_reads' HO0.out).2.1); rintro e w13 ⟨rfl, hb⟩; refine ⟨_, rfl, ?_⟩; have n0_ := zaqan (Kd.V_below (by (with_reducible repeat (first | apply Kd.V_alloc | apply Kd.V_drewN | apply Kd.V_drew)); exact HO0.out) hb); have n1_ := zaqan (blk_below (g := zaqav) (o := .cells #[.int .i64 0, .bool false, .int .i64 0, .string (⟨#[]⟩ : ByteArray), .slice none 0 0] 36 (0, 0)) (by (with_reducible repeat (first | refine zaqab ?_ _ | refine zaqad ?_ | refine zaqac ?_ _)); exact zaqas.out) hb); have n2_ := zaqan (below_step (by repeat (first | (with_reducible first | exact HB.out | apply zaqah | apply zaqaf | apply zaqag | refine zaqae ?_ zaqbi.out) | exact HB.out)) hb); clear HO0; clear zaqas; clear HB; have HO0 := n0_; have zaqas := n1_; have HB := n2_; clear n0_ n1_ n2_; (try clear hb); (try clear hk); (try clear hi); have zaqbr : w13.cell? ⟨zaqav, 0, none⟩ = some (.int .i64 0) := (zaqai zaqas.out 0).trans rfl; have zaqbs : w13.cell? ⟨zaqav, 1, none⟩ = some (.bool false) := (zaqai zaqas.out 1).trans rfl; have zaqbt : w13.cell? ⟨zaqav, 2, none⟩ = some (.int .i64 0) := (zaqai zaqas.out 2).trans rfl; have zaqbu : w13.cell? ⟨zaqav, 3, none⟩ = some (.string (⟨#[]⟩ : ByteArray)) := (zaqai zaqas.out 3).trans rfl; have zaqbv : w13.cell? ⟨zaqav, 4, none⟩ = some (.slice none 0 0) := (zaqai zaqas.out 4).trans rfl; have zaqbw := zaqaj zaqas.out 0; have zaqbx := zaqaj zaqas.out 1; have zaqby := zaqaj zaqas.out 2; have zaqbz := zaqaj zaqas.out 3; have zaqca := zaqaj zaqas.out 4))
  refine bodyPost_ret (results_ct rfl _ _ zaqav 36 #[.int .i64 0, .bool false, .int .i64 0, .string (⟨#[]⟩ : ByteArray), .slice none 0 0] (0, 0) _ rfl (by (with_reducible repeat (first | refine zaqab ?_ _ | refine zaqad ?_ | refine zaqac ?_ _)); refine blk_put (cs := #[.int .i64 0, .bool false, .int .i64 0, .string (⟨#[]⟩ : ByteArray), .slice none 0 0]) ?_ 4 _ rfl; (with_reducible repeat (first | refine zaqab ?_ _ | refine zaqad ?_ | refine zaqac ?_ _)); refine blk_put (cs := #[.int .i64 0, .bool false, .int .i64 0, .string (⟨#[]⟩ : ByteArray), .slice none 0 0]) ?_ 3 _ rfl; (with_reducible repeat (first | refine zaqab ?_ _ | refine zaqad ?_ | refine zaqac ?_ _)); refine blk_put (cs := #[.int .i64 0, .bool false, .int .i64 0, .string (⟨#[]⟩ : ByteArray), .slice none 0 0]) ?_ 2 _ rfl; (with_reducible repeat (first | refine zaqab ?_ _ | refine zaqad ?_ | refine zaqac ?_ _)); refine blk_put (cs := #[.int .i64 0, .bool false, .int .i64 0, .string (⟨#[]⟩ : ByteArray), .slice none 0 0]) ?_ 1 _ rfl; (with_reducible repeat (first | refine zaqab ?_ _ | refine zaqad ?_ | refine zaqac ?_ _)); refine blk_put (cs := #[.int .i64 0, .bool false, .int .i64 0, .string (⟨#[]⟩ : ByteArray), .slice none 0 0]) ?_ 0 _ rfl; (with_reducible repeat (first | refine zaqab ?_ _ | refine zaqad ?_ | refine zaqac ?_ _)); exact zaqas.out) Try.underlying36 rfl (by kernel_rfl)) rfl ?_
  exact ⟨_, by first | rfl | (simp [errW_none, errW_some] <;> rfl) | (simp [*, errW_none, errW_some] <;> rfl), (Kd.V_nil _ _ _ _ _), by repeat (first | (with_reducible first | exact HB.out | apply zaqah | apply zaqaf | apply zaqag | refine zaqae ?_ zaqbi.out) | exact HB.out)⟩

/-! ### stowagelaw01_Same: function 27 -/
def stowagelaw01_Same.l0 : Nat → List ByteArray → List ByteArray → Int → Option (Bool)
 | 0, _, _, _ => none
 | k + 1, x0, x1, x5 => if x5 < (x0.length : Int) then (if 0 ≤ x5 then (if x5 < (x1.length : Int) then (if (rdOf ByteArray.empty x0 x5).toList = (rdOf ByteArray.empty x1 x5).toList then (stowagelaw01_Same.l0 k x0 x1 (wrap64 (x5 + 1))) else (some false)) else (none)) else (none)) else (some true)
def stowagelaw01_Same.f (k : Nat) (l0 : List ByteArray) (l1 : List ByteArray) : Option (Bool) := if (l0.length : Int) = (l1.length : Int) then (stowagelaw01_Same.l0 k l0 l1 0) else (some false)
set_option maxHeartbeats 8000000 in
set_option maxRecDepth 100000 in
theorem stowagelaw01_Same.calls (k : Nat) (A0 : Option Addr) (c0 : Nat) (l0 : List ByteArray) (A1 : Option Addr) (c1 : Nat) (l1 : List ByteArray) (r : Bool) (w : World) (hr0 : Kd.C Kd.string w A0 l0.length l0) (hc0 : l0.length ≤ c0) (hr1 : Kd.C Kd.string w A1 l1.length l1) (hc1 : l1.length ≤ c1) (h : stowagelaw01_Same.f k l0 l1 = some r) :
  Calls Try.prog 27 #[.slice A0 l0.length c0, .slice A1 l1.length c1] w fun e w' => e = .returned (.bool r) ∧ Drawn0 w w' := by
 have HR0 := zaqan hr0
 have HC0 := zaqan hc0
 clear hr0 hc0
 have HR1 := zaqan hr1
 have HC1 := zaqan hc1
 clear hr1 hc1
 have H : (if (l0.length : Int) = (l1.length : Int) then (stowagelaw01_Same.l0 k l0 l1 0) else (some false)) = some r := h
 clear h
 by_cases c3 : (l0.length : Int) = (l1.length : Int)
 ·rw [if_pos c3] at H
  have c3b0 : ((l0.length : Int) == (l1.length : Int)) = true := beq_iff_eq.mpr c3
  have c3b1 : ((l0.length : Int) != (l1.length : Int)) = false := bne_eq_false_iff_eq.mpr c3
  have c3b2 : (l0.length == l1.length) = true := by first | simpa using c3 | (simp at c3 ⊢; omega)
  clear c3
  have H' := zaqan H
  clear H
  go_enter Try.func27, Try.ntmps27
  go_wp2
  repeat (go_quiet (fail); try go_wp2)
  go_loopg [5] k (fun kq v5 w' => ∃ (zaqaw : Int), v5 = .int .i64 zaqaw ∧ Aside0 (stowagelaw01_Same.l0 kq l0 l1 zaqaw = some r) ∧ Aside0 (kq ≤ k) ∧ Drawn0 w w')
  case atStart => exact ⟨(0), (by first | rfl | (simp; done) | (simp [*]; done)), H', ⟨Nat.le_refl _⟩, by repeat (first | exact Drawn0.refl _ | apply Drawn0.step)⟩
  case round =>
   clear H'
   try clear c1
   try clear c2
   try clear p2
   try clear c3
   try clear c3b0
   try clear c3b1
   try clear c3b2
   obtain ⟨zaqaw, rfl, HA, HK1, ⟨m1, rfl⟩⟩ := hrel
   cases gk with
   | zero => exact absurd HA.out (by simp [stowagelaw01_Same.l0])
   | succ k1 =>
    have H := HA.out
    clear HA
    simp only [stowagelaw01_Same.l0] at H
    by_cases c4 : zaqaw < (l0.length : Int)
    ·rw [if_pos c4] at H
     have c4b0 : decide (zaqaw < (l0.length : Int)) = true := decide_eq_true c4
     clear c4
     by_cases c5 : 0 ≤ zaqaw
     ·rw [if_pos c5] at H
      have c5b0 : decide (0 ≤ zaqaw) = true := decide_eq_true c5
      clear c5
      by_cases c6 : zaqaw < (l1.length : Int)
      ·rw [if_pos c6] at H
       have c6b0 : decide (zaqaw < (l1.length : Int)) = true := decide_eq_true c6
       clear c6
       by_cases c7 : (rdOf ByteArray.empty l0 zaqaw).toList = (rdOf ByteArray.empty l1 zaqaw).toList
       ·rw [if_pos c7] at H
        have c7b0 : ((rdOf ByteArray.empty l0 zaqaw).toList == (rdOf ByteArray.empty l1 zaqaw).toList) = true := beq_iff_eq.mpr c7
        have c7b1 : ((rdOf ByteArray.empty l0 zaqaw).toList != (rdOf ByteArray.empty l1 zaqaw).toList) = false := bne_eq_false_iff_eq.mpr c7
        clear c7
        have H' := zaqan H
        clear H
        have p337 : 0 ≤ (zaqaw : Int) := of_decide_eq_true (by first | (with_reducible assumption) | assumption)
        have q337 : zaqaw < (l0.length : Int) := of_decide_eq_true (by first | (with_reducible assumption) | assumption)
        obtain ⟨ad337, e337, hx337_0⟩ := Kd.at_string HR0.out zaqaw p337 q337
        cases e337
        replace p337 := eq_true p337
        replace q337 := eq_true q337
        have p338 : 0 ≤ (zaqaw : Int) := of_decide_eq_true (by first | (with_reducible assumption) | assumption)
        have q338 : zaqaw < (l1.length : Int) := of_decide_eq_true (by first | (with_reducible assumption) | assumption)
        obtain ⟨ad338, e338, hx338_0⟩ := Kd.at_string HR1.out zaqaw p338 q338
        cases e338
        replace p338 := eq_true p338
        replace q338 := eq_true q338
        go_wp2
        repeat (go_quiet (fail); try go_wp2)
        go_roundg k1
        case measure => have := HK1.out; omega
        case rel => exact ⟨(wrap64 (zaqaw + 1)), (by first | rfl | (simp; done) | (simp [*]; done)), H', ⟨by have := HK1.out; omega⟩, by repeat (first | exact Drawn0.refl _ | apply Drawn0.step)⟩
       ·rw [if_neg c7] at H
        have c7b0 : ((rdOf ByteArray.empty l0 zaqaw).toList == (rdOf ByteArray.empty l1 zaqaw).toList) = false := beq_eq_false_iff_ne.mpr c7
        have c7b1 : ((rdOf ByteArray.empty l0 zaqaw).toList != (rdOf ByteArray.empty l1 zaqaw).toList) = true := bne_iff_ne.mpr c7
        obtain rfl := Option.some.inj H
        have p337 : 0 ≤ (zaqaw : Int) := of_decide_eq_true (by first | (with_reducible assumption) | assumption)
        have q337 : zaqaw < (l0.length : Int) := of_decide_eq_true (by first | (with_reducible assumption) | assumption)
        obtain ⟨ad337, e337, hx337_0⟩ := Kd.at_string HR0.out zaqaw p337 q337
        cases e337
        replace p337 := eq_true p337
        replace q337 := eq_true q337
        have p338 : 0 ≤ (zaqaw : Int) := of_decide_eq_true (by first | (with_reducible assumption) | assumption)
        have q338 : zaqaw < (l1.length : Int) := of_decide_eq_true (by first | (with_reducible assumption) | assumption)
        obtain ⟨ad338, e338, hx338_0⟩ := Kd.at_string HR1.out zaqaw p338 q338
        cases e338
        replace p338 := eq_true p338
        replace q338 := eq_true q338
        go_wp2
        repeat (go_quiet (fail); try go_wp2)
        go_ret
        exact ⟨by first | rfl | (simp; done) | (simp [*]; done), by repeat (first | exact Drawn0.refl _ | apply Drawn0.step)⟩
      ·rw [if_neg c6] at H
       exact absurd H (by simp)
     ·rw [if_neg c5] at H
      exact absurd H (by simp)
    ·rw [if_neg c4] at H
     have c4b0 : decide (zaqaw < (l0.length : Int)) = false := decide_eq_false c4
     clear c4
     obtain rfl := Option.some.inj H
     go_wp2
     repeat (go_quiet (fail); try go_wp2)
     go_ret
     exact ⟨by first | rfl | (simp; done) | (simp [*]; done), by repeat (first | exact Drawn0.refl _ | apply Drawn0.step)⟩
 ·rw [if_neg c3] at H
  have c3b0 : ((l0.length : Int) == (l1.length : Int)) = false := beq_eq_false_iff_ne.mpr c3
  have c3b1 : ((l0.length : Int) != (l1.length : Int)) = true := bne_iff_ne.mpr c3
  have c3b2 : (l0.length == l1.length) = false := by first | simpa using c3 | (simp at c3 ⊢; omega)
  obtain rfl := Option.some.inj H
  go_enter Try.func27, Try.ntmps27
  go_wp2
  repeat (go_quiet (fail); try go_wp2)
  go_ret
  exact ⟨by first | rfl | (simp; done) | (simp [*]; done), by repeat (first | exact Drawn0.refl _ | apply Drawn0.step)⟩

/-! ### chain_Ids: function 28 -/
mutual
def chain_Ids.l0 : Nat → List ByteArray → List (S24) → Int → Int → Option (List ByteArray)
 | 0, _, _, _, _ => none
 | k + 1, x3, x11, x12, x13 => if x13 < x12 then (if 0 ≤ x13 then (if x13 < (x11.length : Int) then (chain_Ids.l1 k x3 x11 x12 x13 ((rd_T24 x11 x13).f4) (((rd_T24 x11 x13).f4).length : Int) 0) else (none)) else (none)) else (some x3)
def chain_Ids.l1 : Nat → List ByteArray → List (S24) → Int → Int → List (S72) → Int → Int → Option (List ByteArray)
 | 0, _, _, _, _, _, _, _ => none
 | k + 1, x3, x11, x12, x13, x18, x19, x20 => if x20 < x19 then (if 0 ≤ x20 then (if x20 < (x18.length : Int) then (if x3.length < 8796093022208 then (chain_Ids.l1 k (x3 ++ [(rd_T72 x18 x20).f0]) x11 x12 x13 x18 x19 (wrap64 (x20 + 1))) else (none)) else (none)) else (none)) else (chain_Ids.l0 k x3 x11 x12 (wrap64 (x13 + 1)))
end
def chain_Ids.f (k : Nat) (l0 : List (S24)) : Option (List ByteArray) := (chain_right.f k l0).bind fun t339 => (if t339 = true then (chain_Ids.l0 k ([] : List ByteArray) l0 (l0.length : Int) 0) else (some ([] : List ByteArray)))
set_option maxHeartbeats 8000000 in
set_option maxRecDepth 100000 in
theorem chain_Ids.calls (k : Nat) (A0 : Option Addr) (c0 : Nat) (l0 : List (S24)) (r : List ByteArray) (w : World) (hr0 : Kd.C k24 w A0 l0.length l0) (hc0 : l0.length ≤ c0) (h : chain_Ids.f k l0 = some r) :
  Calls Try.prog 28 #[.slice A0 l0.length c0] w fun e w' => ∃ v0_ : Value, e = .returned (v0_) ∧ Kd.R Kd.string 9 w' w.heap.size (fun _ => True) v0_ r ∧ Below w.heap.size w w' := by
 have hu24 := Try.underlying24
 have hu72 := Try.underlying72
 have HR0 := zaqan hr0
 have HC0 := zaqan hc0
 clear hr0 hc0
 have HB := zaqan (Below.refl w.heap.size w)
 have H : ((chain_right.f k l0).bind fun t339 => (if t339 = true then (chain_Ids.l0 k ([] : List ByteArray) l0 (l0.length : Int) 0) else (some ([] : List ByteArray)))) = some r := h
 clear h
 replace H := Option.bind_eq_some_iff.mp H
 obtain ⟨t339, A20, H⟩ := H
 replace H : (if t339 = true then (chain_Ids.l0 k ([] : List ByteArray) l0 (l0.length : Int) 0) else (some ([] : List ByteArray))) = some r := H
 have A2 := zaqan A20
 clear A20
 by_cases c3 : t339 = true
 ·subst c3
  have H1 : (chain_Ids.l0 k ([] : List ByteArray) l0 (l0.length : Int) 0) = some r := by rw [if_pos rfl] at H; exact H
  clear H
  have H := H1
  clear H1
  have H' := zaqan H
  clear H
  go_enter Try.func28, Try.ntmps28
  go_wp2_with (first | ((with_reducible refine gate_callee (f := 37) rfl ?_); refine goesL_ (some 9) rfl rfl Try.func37 (by kernel_rfl) rfl #[.slice A0 l0.length c0] rfl (by (try simp only [zaqak, zaqal, zaqam]); first | done | rfl) ?_; (with_reducible refine (chain_right.calls k _ _ l0 true _ ?side1 ?side2 A2.out).mono ?_); (case side1 => repeat (first | exact HR0.out | (with_reducible refine Kd.C_alloc ?_ _) | (with_reducible refine Kd.C_drewN ?_ _) | (with_reducible refine Kd.C_drew ?_))); (case side2 => exact HC0.out); rintro e w4 ⟨rfl, hb⟩; refine ⟨_, rfl, ?_⟩; have n0_ := zaqan (below_step (by repeat (first | (with_reducible first | exact HB.out | apply zaqah | apply zaqaf | apply zaqag) | exact HB.out)) hb); clear HB; have HB := n0_; clear n0_; (try clear hb); (try clear hk); (try clear hi)))
  go_loopg [3, 13] k (fun kq v3 v13 w' => ∃ (zaqbn : List ByteArray) (zaqao : Int), v13 = .int .i64 zaqao ∧ Aside0 (chain_Ids.l0 kq zaqbn l0 (l0.length : Int) zaqao = some r) ∧ Aside0 (kq ≤ k) ∧ Aside0 (Kd.R Kd.string 9 w' w.heap.size (fun _ => True) v3 zaqbn) ∧ Aside0 (Below w.heap.size w w'))
  case atStart => exact ⟨(([] : List ByteArray)), (0), (by first | rfl | (simp; done) | (simp [*]; done)), H', ⟨Nat.le_refl _⟩, ⟨by first | exact Kd.R_nil _ _ _ _ _ | exact Kd.N_nil _ _ _ _ _ | exact Kd.V_nil _ _ _ _ _ | exact Kd.Q_nil _ _ _ _ _ | exact Kd.S_nil _ _ _ _ _⟩, ⟨by repeat (first | (with_reducible first | exact HB.out | apply zaqah | apply zaqaf | apply zaqag) | exact HB.out)⟩⟩
  case round =>
   clear H'
   try clear c2
   try clear p2
   try clear c3
   obtain ⟨zaqbn, zaqao, rfl, HA, HK1, HO_3, HB⟩ := hrel
   cases gk with
   | zero => exact absurd HA.out (by simp [chain_Ids.l0])
   | succ k1 =>
    have H := HA.out
    clear HA
    simp only [chain_Ids.l0] at H
    by_cases c5 : zaqao < (l0.length : Int)
    ·rw [if_pos c5] at H
     have c5b0 : decide (zaqao < (l0.length : Int)) = true := decide_eq_true c5
     clear c5
     by_cases c6 : 0 ≤ zaqao
     ·rw [if_pos c6] at H
      have c6b0 : decide (0 ≤ zaqao) = true := decide_eq_true c6
      clear c6
      by_cases c7 : zaqao < (l0.length : Int)
      ·rw [if_pos c7] at H
       have c7b0 : decide (zaqao < (l0.length : Int)) = true := decide_eq_true c7
       clear c7
       have H' := zaqan H
       clear H
       have p340 : 0 ≤ (zaqao : Int) := of_decide_eq_true (by first | (with_reducible assumption) | assumption)
       have q340 : zaqao < (l0.length : Int) := of_decide_eq_true (by first | (with_reducible assumption) | assumption)
       obtain ⟨ad340, A340_4, c340_4, e340, hx340_0, hx340_1, hx340_2, hx340_3, hx340_4, hl340_4, hi340_4⟩ := at_T24 HR0.out zaqao p340 q340
       cases e340
       replace hx340_0 := (HB.out.cell (zaqaa w _ hx340_0)).trans hx340_0
       replace hx340_1 := (HB.out.cell (zaqaa w _ hx340_1)).trans hx340_1
       replace hx340_2 := (HB.out.cell (zaqaa w _ hx340_2)).trans hx340_2
       replace hx340_3 := (HB.out.cell (zaqaa w _ hx340_3)).trans hx340_3
       replace hx340_4 := (HB.out.cell (zaqaa w _ hx340_4)).trans hx340_4
       have HR340_4 := zaqan hi340_4
       have HC340_4 := zaqan hl340_4
       clear hi340_4 hl340_4
       replace p340 := eq_true p340
       replace q340 := eq_true q340
       go_wp2_with (first | ((with_reducible refine gate_dst (N := 5) rfl ?_); refine box_event ?hg (N := 5) ?hd (cs := #[.int .i64 0, .bool false, .int .i64 0, .string (⟨#[]⟩ : ByteArray), .slice none 0 0]) (t := 24) ?hr ?_; (case hd => rfl); (case hg => rfl); (case hr => first | (go_simp; done) | (go_simp; rfl)); intro zaqbb hg w8 hbox hb; have n0_ := zaqan (Kd.R_below (by (with_reducible repeat (first | apply Kd.R_alloc | apply Kd.R_drewN | apply Kd.R_drew)); exact HO_3.out) hb); have n1_ := zaqan (below_step (by repeat (first | (with_reducible first | exact HB.out | apply zaqah | apply zaqaf | apply zaqag) | exact HB.out)) hb); have n2_ := zaqan (hbox); have n3_ := zaqan ((by rw [hg]; exact (below_size (by repeat (first | (with_reducible first | exact HB.out | apply zaqah | apply zaqaf | apply zaqag) | exact HB.out))) : w.heap.size ≤ zaqbb)); have n4_ := zaqan ((by rw [hg]; exact (below_size (by repeat (first | (with_reducible first | exact HB.out | apply zaqah | apply zaqaf | apply zaqag) | exact HB.out))) : w.heap.size ≤ zaqbb)); clear HO_3; clear HB; have HO_3 := n0_; have HB := n1_; have zaqay := n2_; have zaqfe := n3_; have zaqbj := n4_; clear n0_ n1_ n2_ n3_ n4_; clear hb hbox hg; have zaqcp : w8.cell? ⟨zaqbb, 0, none⟩ = some (.int .i64 0) := (zaqai zaqay.out 0).trans rfl; have zaqcq : w8.cell? ⟨zaqbb, 1, none⟩ = some (.bool false) := (zaqai zaqay.out 1).trans rfl; have zaqcr : w8.cell? ⟨zaqbb, 2, none⟩ = some (.int .i64 0) := (zaqai zaqay.out 2).trans rfl; have zaqcs : w8.cell? ⟨zaqbb, 3, none⟩ = some (.string (⟨#[]⟩ : ByteArray)) := (zaqai zaqay.out 3).trans rfl; have zaqct : w8.cell? ⟨zaqbb, 4, none⟩ = some (.slice none 0 0) := (zaqai zaqay.out 4).trans rfl; have zaqcu := zaqaj zaqay.out 0; have zaqcv := zaqaj zaqay.out 1; have zaqcw := zaqaj zaqay.out 2; have zaqcx := zaqaj zaqay.out 3; have zaqcy := zaqaj zaqay.out 4))
       go_loopg [3, 20] k1 (fun kq v3 v20 w' => ∃ (zaqbl : List ByteArray) (zaqaz : Int), v20 = .int .i64 zaqaz ∧ Aside0 (chain_Ids.l1 kq zaqbl l0 (l0.length : Int) zaqao ((rd_T24 l0 zaqao).f4) (((rd_T24 l0 zaqao).f4).length : Int) zaqaz = some r) ∧ Aside0 (kq ≤ k1) ∧ Aside0 (Kd.R Kd.string 9 w' w.heap.size (fun _ => True) v3 zaqbl) ∧ Aside0 (w'.heap[zaqbb]? = some (.cells #[.int .i64 ((rd_T24 l0 zaqao).f0), .bool ((rd_T24 l0 zaqao).f1), .int .i64 ((rd_T24 l0 zaqao).f2), .string ((rd_T24 l0 zaqao).f3), (.slice A340_4 ((rd_T24 l0 zaqao).f4).length c340_4)] 24 (0, 0))) ∧ Aside0 (Below w.heap.size w w'))
       case atStart => exact ⟨(zaqbn), (0), (by first | rfl | (simp; done) | (simp [*]; done)), H', ⟨Nat.le_refl _⟩, ⟨by (with_reducible repeat (first | apply Kd.R_alloc | apply Kd.R_drewN | apply Kd.R_drew)); exact Kd.R_mono (Kd.R_far (p := ⟨zaqbb, 4, none⟩) (Kd.R_far (p := ⟨zaqbb, 3, none⟩) (Kd.R_far (p := ⟨zaqbb, 2, none⟩) (Kd.R_far (p := ⟨zaqbb, 1, none⟩) (Kd.R_far (p := ⟨zaqbb, 0, none⟩) (Kd.R_types HO_3.out zaqay.out (by decide)) (fun _ hk => hk.2) (.int .i64 ((rd_T24 l0 zaqao).f0))) (fun _ hk => hk.2) (.bool ((rd_T24 l0 zaqao).f1))) (fun _ hk => hk.2) (.int .i64 ((rd_T24 l0 zaqao).f2))) (fun _ hk => hk.2) (.string ((rd_T24 l0 zaqao).f3))) (fun _ hk => hk.2) (.slice A340_4 ((rd_T24 l0 zaqao).f4).length c340_4)) (fun _ hk => trivial)⟩, ⟨by (with_reducible repeat (first | refine zaqab ?_ _ | refine zaqad ?_ | refine zaqac ?_ _)); refine blk_put (cs := #[.int .i64 ((rd_T24 l0 zaqao).f0), .bool ((rd_T24 l0 zaqao).f1), .int .i64 ((rd_T24 l0 zaqao).f2), .string ((rd_T24 l0 zaqao).f3), .slice none 0 0]) ?_ 4 _ rfl; (with_reducible repeat (first | refine zaqab ?_ _ | refine zaqad ?_ | refine zaqac ?_ _)); refine blk_put (cs := #[.int .i64 ((rd_T24 l0 zaqao).f0), .bool ((rd_T24 l0 zaqao).f1), .int .i64 ((rd_T24 l0 zaqao).f2), .string (⟨#[]⟩ : ByteArray), .slice none 0 0]) ?_ 3 _ rfl; (with_reducible repeat (first | refine zaqab ?_ _ | refine zaqad ?_ | refine zaqac ?_ _)); refine blk_put (cs := #[.int .i64 ((rd_T24 l0 zaqao).f0), .bool ((rd_T24 l0 zaqao).f1), .int .i64 0, .string (⟨#[]⟩ : ByteArray), .slice none 0 0]) ?_ 2 _ rfl; (with_reducible repeat (first | refine zaqab ?_ _ | refine zaqad ?_ | refine zaqac ?_ _)); refine blk_put (cs := #[.int .i64 ((rd_T24 l0 zaqao).f0), .bool false, .int .i64 0, .string (⟨#[]⟩ : ByteArray), .slice none 0 0]) ?_ 1 _ rfl; (with_reducible repeat (first | refine zaqab ?_ _ | refine zaqad ?_ | refine zaqac ?_ _)); refine blk_put (cs := #[.int .i64 0, .bool false, .int .i64 0, .string (⟨#[]⟩ : ByteArray), .slice none 0 0]) ?_ 0 _ rfl; (with_reducible repeat (first | refine zaqab ?_ _ | refine zaqad ?_ | refine zaqac ?_ _)); exact zaqay.out⟩, ⟨by repeat (first | (with_reducible first | exact HB.out | apply zaqah | apply zaqaf | apply zaqag | refine zaqae ?_ zaqbj.out) | exact HB.out)⟩⟩
       case round =>
        clear H'
        try clear c2
        try clear p2
        try clear c3
        try clear p3
        try clear q3
        try clear hx3
        try clear c5
        try clear c5b0
        try clear c6
        try clear c6b0
        try clear c7
        try clear c7b0
        try clear zaqcp
        try clear zaqcq
        try clear zaqcr
        try clear zaqcs
        try clear zaqct
        try clear zaqcu
        try clear zaqcv
        try clear zaqcw
        try clear zaqcx
        try clear zaqcy
        try clear hx340_0
        try clear hx340_1
        try clear hx340_2
        try clear hx340_3
        try clear hx340_4
        try clear p2
        try clear p340
        try clear q340
        obtain ⟨zaqbl, zaqaz, rfl, HA, HK2, HO_3, zaqay, HB⟩ := hrel
        cases gk with
        | zero => exact absurd HA.out (by simp [chain_Ids.l1])
        | succ k2 =>
         have H := HA.out
         clear HA
         simp only [chain_Ids.l1] at H
         by_cases c10 : zaqaz < (((rd_T24 l0 zaqao).f4).length : Int)
         ·rw [if_pos c10] at H
          have c10b0 : decide (zaqaz < (((rd_T24 l0 zaqao).f4).length : Int)) = true := decide_eq_true c10
          clear c10
          by_cases c11 : 0 ≤ zaqaz
          ·rw [if_pos c11] at H
           have c11b0 : decide (0 ≤ zaqaz) = true := decide_eq_true c11
           clear c11
           by_cases c12 : zaqaz < (((rd_T24 l0 zaqao).f4).length : Int)
           ·rw [if_pos c12] at H
            have c12b0 : decide (zaqaz < (((rd_T24 l0 zaqao).f4).length : Int)) = true := decide_eq_true c12
            clear c12
            by_cases c13 : zaqbl.length < 8796093022208
            ·rw [if_pos c13] at H
             have LMc13 := zaqan c13
             clear c13
             obtain ⟨y344, hy344⟩ : ∃ y_ : List ByteArray, y_ = (zaqbl ++ [(rd_T72 ((rd_T24 l0 zaqao).f4) zaqaz).f0]) := ⟨_, rfl⟩
             replace H : (chain_Ids.l1 k2 y344 l0 (l0.length : Int) zaqao ((rd_T24 l0 zaqao).f4) (((rd_T24 l0 zaqao).f4).length : Int) (wrap64 (zaqaz + 1))) = some r := by first | (rw [hy344]; with_reducible exact H) | (have H2_ := (Option.bind_some _ _).symm.trans H; rw [hy344]; with_reducible exact H2_) | (have H2_ := (Option.bind_some _ _).symm.trans H; with_reducible exact H2_) | with_reducible exact H | (rw [hy344]; exact H) | exact H
             have Ny344 := zaqan hy344
             clear hy344
             have H' := zaqan H
             clear H
             have p342 : 0 ≤ (zaqaz : Int) := of_decide_eq_true (by first | (with_reducible assumption) | assumption)
             have q342 : zaqaz < (((rd_T24 l0 zaqao).f4).length : Int) := of_decide_eq_true (by first | (with_reducible assumption) | assumption)
             obtain ⟨ad342, e342, hx342_0, hx342_1⟩ := at_T72 HR340_4.out zaqaz p342 q342
             cases e342
             replace hx342_0 := (HB.out.cell (zaqaa w _ hx342_0)).trans hx342_0
             replace hx342_1 := (HB.out.cell (zaqaa w _ hx342_1)).trans hx342_1
             replace p342 := eq_true p342
             replace q342 := eq_true q342
             go_wp2_with (first | ((with_reducible refine gate_dst (N := 7) rfl ?_); refine box_event ?hg (N := 7) ?hd (cs := #[.string (⟨#[]⟩ : ByteArray), .int .i64 0]) (t := 72) ?hr ?_; (case hd => rfl); (case hg => rfl); (case hr => first | (go_simp; done) | (go_simp; rfl)); intro zaqbg hg w14 hbox hb; have n0_ := zaqan (Kd.R_below (by (with_reducible repeat (first | apply Kd.R_alloc | apply Kd.R_drewN | apply Kd.R_drew)); exact HO_3.out) hb); have n1_ := zaqan (blk_below (g := zaqbb) (o := .cells #[.int .i64 ((rd_T24 l0 zaqao).f0), .bool ((rd_T24 l0 zaqao).f1), .int .i64 ((rd_T24 l0 zaqao).f2), .string ((rd_T24 l0 zaqao).f3), .slice (some ad342) ((rd_T24 l0 zaqao).f4).length c340_4] 24 (0, 0)) (by (with_reducible repeat (first | refine zaqab ?_ _ | refine zaqad ?_ | refine zaqac ?_ _)); exact zaqay.out) hb); have n2_ := zaqan (below_step (by repeat (first | (with_reducible first | exact HB.out | apply zaqah | apply zaqaf | apply zaqag | refine zaqae ?_ zaqbj.out) | exact HB.out)) hb); have n3_ := zaqan (hbox); have n4_ := zaqan ((by rw [hg]; exact (below_size (by repeat (first | (with_reducible first | exact HB.out | apply zaqah | apply zaqaf | apply zaqag | refine zaqae ?_ zaqbj.out) | exact HB.out))) : w.heap.size ≤ zaqbg)); have n5_ := zaqan ((by rw [hg]; exact (below_size (by repeat (first | (with_reducible first | exact HB.out | apply zaqah | apply zaqaf | apply zaqag | refine zaqae ?_ zaqbj.out) | exact HB.out))) : w.heap.size ≤ zaqbg)); have n6_ := zaqan ((by rw [hg]; exact Nat.ne_of_lt (blk_lt (g := zaqbb) (o := .cells #[.int .i64 ((rd_T24 l0 zaqao).f0), .bool ((rd_T24 l0 zaqao).f1), .int .i64 ((rd_T24 l0 zaqao).f2), .string ((rd_T24 l0 zaqao).f3), .slice (some ad342) ((rd_T24 l0 zaqao).f4).length c340_4] 24 (0, 0)) (by (with_reducible repeat (first | refine zaqab ?_ _ | refine zaqad ?_ | refine zaqac ?_ _)); exact zaqay.out)) : zaqbb ≠ zaqbg)); have n7_ := zaqan ((by rw [hg]; exact Nat.ne_of_gt (blk_lt (g := zaqbb) (o := .cells #[.int .i64 ((rd_T24 l0 zaqao).f0), .bool ((rd_T24 l0 zaqao).f1), .int .i64 ((rd_T24 l0 zaqao).f2), .string ((rd_T24 l0 zaqao).f3), .slice (some ad342) ((rd_T24 l0 zaqao).f4).length c340_4] 24 (0, 0)) (by (with_reducible repeat (first | refine zaqab ?_ _ | refine zaqad ?_ | refine zaqac ?_ _)); exact zaqay.out)) : zaqbg ≠ zaqbb)); clear HO_3; clear zaqay; clear HB; have HO_3 := n0_; have zaqay := n1_; have HB := n2_; have zaqbh := n3_; have zaqff := n4_; have zaqbo := n5_; have zaqbk := n6_; have zaqbp := n7_; clear n0_ n1_ n2_ n3_ n4_ n5_ n6_ n7_; clear hb hbox hg; have hnb15 := zaqbp.out; have hnc15 := zaqbk.out; have zaqcl : w14.cell? ⟨zaqbg, 0, none⟩ = some (.string (⟨#[]⟩ : ByteArray)) := (zaqai zaqbh.out 0).trans rfl; have zaqcm : w14.cell? ⟨zaqbg, 1, none⟩ = some (.int .i64 0) := (zaqai zaqbh.out 1).trans rfl; have zaqcn := zaqaj zaqbh.out 0; have zaqco := zaqaj zaqbh.out 1) | ((with_reducible refine gate_builtin (b := .append) (xs := #[.tmp 24, .tmp 27]) rfl ?_); at_builtin; refine Kd.R_append Kd.string (w0 := w) w.heap.size rfl (.tmp 24) (.tmp 27) 60 9 (.string ⟨#[]⟩) 16 rfl Try.underlying60 info9 rfl (by decide) (by omega) u3 zaqbl ((rd_T72 ((rd_T24 l0 zaqao).f4) zaqaz).f0) [.string ((rd_T72 ((rd_T24 l0 zaqao).f4) zaqaz).f0)] (fun _ => True) (fun _ => False) rfl (by first | (go_simp; done) | (go_simp; rfl)) ?aP (fun _ hk => hk.elim) ?aF ?aO ?aB ?aS ?aL ?_; (case aP => exact rfl); (case aB => exact (by repeat (first | (with_reducible first | exact HB.out | apply zaqah | apply zaqaf | apply zaqag | refine zaqae ?_ zaqbj.out | refine zaqae ?_ zaqbo.out) | exact HB.out))); (case aF => exact (fun _ _ => trivial)); (case aO => exact (by (with_reducible repeat (first | apply Kd.R_alloc | apply Kd.R_drewN | apply Kd.R_drew)); exact Kd.R_mono (Kd.R_far (p := ⟨zaqbg, 1, none⟩) (Kd.R_far (p := ⟨zaqbg, 0, none⟩) (Kd.R_types HO_3.out zaqbh.out (by decide)) (fun _ hk => hk.2) (.string ((rd_T72 ((rd_T24 l0 zaqao).f4) zaqaz).f0))) (fun _ hk => hk.2) (.int .i64 ((rd_T72 ((rd_T24 l0 zaqao).f4) zaqaz).f1))) (fun _ hk => trivial))); (case aS => exact (below_size (by repeat (first | (with_reducible first | exact HB.out | apply zaqah | apply zaqaf | apply zaqag | refine zaqae ?_ zaqbj.out | refine zaqae ?_ zaqbo.out) | exact HB.out)))); (case aL => have := LMc13.out; omega); intro v345 w17 ho hb hg hat; rw [← Ny344.out] at ho; have n0_ := zaqan (blk_grown (g := zaqbb) (o := .cells #[.int .i64 ((rd_T24 l0 zaqao).f0), .bool ((rd_T24 l0 zaqao).f1), .int .i64 ((rd_T24 l0 zaqao).f2), .string ((rd_T24 l0 zaqao).f3), .slice (some ad342) ((rd_T24 l0 zaqao).f4).length c340_4] 24 (0, 0)) (by (with_reducible repeat (first | refine zaqab ?_ _ | refine zaqad ?_ | refine zaqac ?_ _)); refine blk_far ?_ zaqbk.out _; (with_reducible repeat (first | refine zaqab ?_ _ | refine zaqad ?_ | refine zaqac ?_ _)); refine blk_far ?_ zaqbk.out _; (with_reducible repeat (first | refine zaqab ?_ _ | refine zaqad ?_ | refine zaqac ?_ _)); exact zaqay.out) hg (Kd.R_ne HO_3.out zaqay.out (by decide))); have n1_ := zaqan (blk_grown (g := zaqbg) (o := .cells #[.string ((rd_T72 ((rd_T24 l0 zaqao).f4) zaqaz).f0), .int .i64 ((rd_T72 ((rd_T24 l0 zaqao).f4) zaqaz).f1)] 72 (0, 0)) (by (with_reducible repeat (first | refine zaqab ?_ _ | refine zaqad ?_ | refine zaqac ?_ _)); refine blk_put (cs := #[.string ((rd_T72 ((rd_T24 l0 zaqao).f4) zaqaz).f0), .int .i64 0]) ?_ 1 _ rfl; (with_reducible repeat (first | refine zaqab ?_ _ | refine zaqad ?_ | refine zaqac ?_ _)); refine blk_put (cs := #[.string (⟨#[]⟩ : ByteArray), .int .i64 0]) ?_ 0 _ rfl; (with_reducible repeat (first | refine zaqab ?_ _ | refine zaqad ?_ | refine zaqac ?_ _)); exact zaqbh.out) hg (Kd.R_ne HO_3.out zaqbh.out (by decide))); have n2_ := zaqan (hb); have n3_ := zaqan (ho); clear zaqay; clear zaqbh; clear HB; clear HO_3; have zaqay := n0_; have zaqbh := n1_; have HB := n2_; have HO346 := n3_; clear n0_ n1_ n2_ n3_; clear ho hb hg hat))
             go_roundg k2
             case measure => have := HK1.out; have := HK2.out; omega
             case rel => exact ⟨(y344), (wrap64 (zaqaz + 1)), (by first | rfl | (simp; done) | (simp [*]; done)), H', ⟨by have := HK1.out; have := HK2.out; omega⟩, ⟨by (with_reducible repeat (first | apply Kd.R_alloc | apply Kd.R_drewN | apply Kd.R_drew)); exact HO346.out⟩, ⟨by (with_reducible repeat (first | refine zaqab ?_ _ | refine zaqad ?_ | refine zaqac ?_ _)); exact zaqay.out⟩, ⟨by repeat (first | (with_reducible first | exact HB.out | apply zaqah | apply zaqaf | apply zaqag | refine zaqae ?_ zaqbj.out | refine zaqae ?_ zaqbo.out) | exact HB.out)⟩⟩
            ·rw [if_neg c13] at H
             exact absurd H (by simp)
           ·rw [if_neg c12] at H
            exact absurd H (by simp)
          ·rw [if_neg c11] at H
           exact absurd H (by simp)
         ·rw [if_neg c10] at H
          have c10b0 : decide (zaqaz < (((rd_T24 l0 zaqao).f4).length : Int)) = false := decide_eq_false c10
          clear c10
          have H' := zaqan H
          clear H
          go_wp2
          go_roundg k2
          case measure => have := HK1.out; have := HK2.out; omega
          case rel => exact ⟨(zaqbl), (wrap64 (zaqao + 1)), (by first | rfl | (simp; done) | (simp [*]; done)), H', ⟨by have := HK1.out; have := HK2.out; omega⟩, ⟨by (with_reducible repeat (first | apply Kd.R_alloc | apply Kd.R_drewN | apply Kd.R_drew)); exact HO_3.out⟩, ⟨by repeat (first | (with_reducible first | exact HB.out | apply zaqah | apply zaqaf | apply zaqag | refine zaqae ?_ zaqbj.out) | exact HB.out)⟩⟩
      ·rw [if_neg c7] at H
       exact absurd H (by simp)
     ·rw [if_neg c6] at H
      exact absurd H (by simp)
    ·rw [if_neg c5] at H
     have c5b0 : decide (zaqao < (l0.length : Int)) = false := decide_eq_false c5
     clear c5
     obtain rfl := Option.some.inj H
     go_wp2
     go_ret
     exact ⟨_, by first | rfl | (simp [errW_none, errW_some] <;> rfl) | (simp [*, errW_none, errW_some] <;> rfl), by (with_reducible repeat (first | apply Kd.R_alloc | apply Kd.R_drewN | apply Kd.R_drew)); exact HO_3.out, by repeat (first | (with_reducible first | exact HB.out | apply zaqah | apply zaqaf | apply zaqag) | exact HB.out)⟩
 ·replace c3 := Bool.eq_false_iff.mpr c3
  subst c3
  have H1 : (some ([] : List ByteArray)) = some r := by rw [if_neg (show ¬ (false = true) by decide)] at H; exact H
  clear H
  have H := H1
  clear H1
  obtain rfl := Option.some.inj H
  go_enter Try.func28, Try.ntmps28
  go_wp2_with (first | ((with_reducible refine gate_callee (f := 37) rfl ?_); refine goesL_ (some 9) rfl rfl Try.func37 (by kernel_rfl) rfl #[.slice A0 l0.length c0] rfl (by (try simp only [zaqak, zaqal, zaqam]); first | done | rfl) ?_; (with_reducible refine (chain_right.calls k _ _ l0 false _ ?side1 ?side2 A2.out).mono ?_); (case side1 => repeat (first | exact HR0.out | (with_reducible refine Kd.C_alloc ?_ _) | (with_reducible refine Kd.C_drewN ?_ _) | (with_reducible refine Kd.C_drew ?_))); (case side2 => exact HC0.out); rintro e w18 ⟨rfl, hb⟩; refine ⟨_, rfl, ?_⟩; have n0_ := zaqan (below_step (by repeat (first | (with_reducible first | exact HB.out | apply zaqah | apply zaqaf | apply zaqag) | exact HB.out)) hb); clear HB; have HB := n0_; clear n0_; (try clear hb); (try clear hk); (try clear hi)))
  go_ret
  exact ⟨_, by first | rfl | (simp [errW_none, errW_some] <;> rfl) | (simp [*, errW_none, errW_some] <;> rfl), by first | exact Kd.R_nil _ _ _ _ _ | exact Kd.N_nil _ _ _ _ _ | exact Kd.V_nil _ _ _ _ _ | exact Kd.Q_nil _ _ _ _ _ | exact Kd.S_nil _ _ _ _ _, by repeat (first | (with_reducible first | exact HB.out | apply zaqah | apply zaqaf | apply zaqag) | exact HB.out)⟩

end Go.Proofs.Ytmpnaaegahjfkaa.Q