

/- Written by a program of this session (wip/patch_print.py over the kit's print): functions of the given program as plain Lean functions, and that each call does what its function says, under no further conditions. -/
import Derived.Test.YtmpnaaegahjfkaaQx0
import Derived.Test.YtmpnaaegahjfkaaQx8
import Derived.Test.YtmpnaaegahjfkaaQx12
import Derived.Test.YtmpnaaegahjfkaaQx14
import Derived.Test.YtmpnaaegahjfkaaQx19
import Derived.Test.YtmpnaaegahjfkaaQx21
import Derived.Test.YtmpnaaegahjfkaaQx23
import Derived.Test.YtmpnaaegahjfkaaQx24b
namespace Go.Proofs.Ytmpnaaegahjfkaa.Q
open Go.RowKit Go.Proofs.YtmpnaaegahjfkaaW.PrintWords Go.Proofs.YtmpnaaegahjfkaaW.PrintLast Go.Proofs.YtmpnaaegahjfkaaW.PrintMore
attribute [local go_sem] max2_int min2_int max_two min_two max_three min_three max_four min_four   -- for this text's walks alone
set_option linter.unusedVariables false
set_option linter.unusedSimpArgs false
attribute [local go_sem] xor_ones_u8 xor_ones_u16 xor_ones_u32 xor_ones_u64 cell_twice frozen_twice
abbrev zazaa := @pw_below_drewN
abbrev zazab := @below_drew1
abbrev zazac := @below_alloc
abbrev zazad := @List.map_toArray
abbrev zazae := @List.map_cons
abbrev zazaf := @List.map_nil
abbrev zazag := @Aside0.mk
/-! ### stowagelaw13_ChainBytes: function 7 -/
/-! ### stowagelaw13_ChainBack: function 8 -/
def stowagelaw13_ChainBack.j0 : Nat → ByteArray → Option (Bool)
 | 0, _ => none
 | k + 1, x1 => (chain_Decode.f k x1).bind fun bt674 => (if bt674.2 = 0 then ((chain_Encode.f k bt674.1).bind fun bt678 => ((stowagelaw13_awake.f k).bind fun t680 => (if t680 = true then (if bt678.2 = 0 then (some (bt678.1.toList == x1.toList)) else (some false)) else (some false)))) else ((stowagelaw13_awake.f k).bind fun t681 => (if t681 = true then (some ((bt674.1.length : Int) == 0)) else (some false))))
def stowagelaw13_ChainBack.f (k : Nat) (l0 : List (S24)) (a1 : ByteArray) : Option (Bool) := (chain_Encode.f k l0).bind fun bt661 => (if bt661.2 = 0 then ((chain_Decode.f k bt661.1).bind fun bt663 => (if bt663.2 = 0 then ((stowagelaw13_Refs.f k bt663.1).bind fun t667 => ((stowagelaw13_Refs.f k l0).bind fun t670 => ((stowageref13_Alike.f k t667 t670).bind fun t673 => (if t673 = true then (stowagelaw13_ChainBack.j0 k a1) else (some false))))) else (some false))) else (stowagelaw13_ChainBack.j0 k a1))
set_option maxHeartbeats 8000000 in
set_option maxRecDepth 100000 in
theorem stowagelaw13_ChainBack.calls (k : Nat) (A0 : Option Addr) (c0 : Nat) (l0 : List (S24)) (a1 : ByteArray) (r : Bool) (w : World) (hr0 : Kd.C k24 w A0 l0.length l0) (hc0 : l0.length ≤ c0) (h : stowagelaw13_ChainBack.f k l0 a1 = some r) :
  Calls Try.prog 8 #[.slice A0 l0.length c0, .string a1] w fun e w' => e = .returned (.bool r) ∧ Below w.heap.size w w' := by
 have HR0 := zazag hr0
 have HC0 := zazag hc0
 clear hr0 hc0
 have HB := zazag (Below.refl w.heap.size w)
 have H : ((chain_Encode.f k l0).bind fun bt661 => (if bt661.2 = 0 then ((chain_Decode.f k bt661.1).bind fun bt663 => (if bt663.2 = 0 then ((stowagelaw13_Refs.f k bt663.1).bind fun t667 => ((stowagelaw13_Refs.f k l0).bind fun t670 => ((stowageref13_Alike.f k t667 t670).bind fun t673 => (if t673 = true then (stowagelaw13_ChainBack.j0 k a1) else (some false))))) else (some false))) else (stowagelaw13_ChainBack.j0 k a1))) = some r := h
 clear h
 replace H := Option.bind_eq_some_iff.mp H
 obtain ⟨⟨t661, t662⟩, A30, H⟩ := H
 replace H : (if t662 = 0 then ((chain_Decode.f k t661).bind fun bt663 => (if bt663.2 = 0 then ((stowagelaw13_Refs.f k bt663.1).bind fun t667 => ((stowagelaw13_Refs.f k l0).bind fun t670 => ((stowageref13_Alike.f k t667 t670).bind fun t673 => (if t673 = true then (stowagelaw13_ChainBack.j0 k a1) else (some false))))) else (some false))) else (stowagelaw13_ChainBack.j0 k a1)) = some r := H
 have A3 := zazag A30
 clear A30
 have HC4 := zazag H
 clear H
 go_enter Try.func8, Try.ntmps8
 go_upto_if 19 with (first | ((with_reducible refine gate_callee (f := 30) rfl ?_); refine goesL_ (some 15) rfl rfl Try.func30 (by kernel_rfl) rfl #[.slice A0 l0.length c0] rfl (by (try simp only [zazad, zazae, zazaf]); first | done | rfl) ?_; (with_reducible refine (chain_Encode.calls k _ _ l0 t661 t662 _ ?side1 ?side2 A3.out).mono ?_); (case side1 => repeat (first | exact HR0.out | (with_reducible refine Kd.C_alloc ?_ _) | (with_reducible refine Kd.C_drewN ?_ _) | (with_reducible refine Kd.C_drew ?_))); (case side2 => exact HC0.out); rintro e w5 ⟨rfl, hb⟩; refine ⟨_, rfl, ?_⟩; have n0_ := zazag (below_step (by repeat (first | (with_reducible first | exact HB.out | apply zazac | apply zazaa | apply zazab) | exact HB.out)) hb); clear HB; have HB := n0_; clear n0_; (try clear hb); (try clear hk); (try clear hi)))
 (try simp only [Act.put, List.setIfInBounds_toArray, List.set_cons_zero, List.set_cons_succ])
 go_cut [] (fun wc => ∃ (kq : Nat), Aside0 (stowagelaw13_ChainBack.j0 kq a1 = some r) ∧ Aside0 (kq ≤ k) ∧ Aside0 (Below w.heap.size w wc))
 case first =>
  have H := HC4.out
  clear HC4
  by_cases c6 : t662 = 0
  ·rw [if_pos c6] at H
   have c6b0 : (t662 == 0) = true := beq_iff_eq.mpr c6
   have c6b1 : (t662 != 0) = false := bne_eq_false_iff_eq.mpr c6
   clear c6
   (first | rw [c6b0] | (simp only [i64_w, i32_w]; rw [c6b0]) | skip)
   replace H := Option.bind_eq_some_iff.mp H
   obtain ⟨⟨t663, t664⟩, A70, H⟩ := H
   replace H : (if t664 = 0 then ((stowagelaw13_Refs.f k t663).bind fun t667 => ((stowagelaw13_Refs.f k l0).bind fun t670 => ((stowageref13_Alike.f k t667 t670).bind fun t673 => (if t673 = true then (stowagelaw13_ChainBack.j0 k a1) else (some false))))) else (some false)) = some r := H
   have A7 := zazag A70
   clear A70
   by_cases c8 : t664 = 0
   ·rw [if_pos c8] at H
    have c8b0 : (t664 == 0) = true := beq_iff_eq.mpr c8
    have c8b1 : (t664 != 0) = false := bne_eq_false_iff_eq.mpr c8
    clear c8
    replace H := Option.bind_eq_some_iff.mp H
    obtain ⟨t667, A90, H⟩ := H
    replace H : ((stowagelaw13_Refs.f k l0).bind fun t670 => ((stowageref13_Alike.f k t667 t670).bind fun t673 => (if t673 = true then (stowagelaw13_ChainBack.j0 k a1) else (some false)))) = some r := H
    have A9 := zazag A90
    clear A90
    replace H := Option.bind_eq_some_iff.mp H
    obtain ⟨t670, A100, H⟩ := H
    replace H : ((stowageref13_Alike.f k t667 t670).bind fun t673 => (if t673 = true then (stowagelaw13_ChainBack.j0 k a1) else (some false))) = some r := H
    have A10 := zazag A100
    clear A100
    replace H := Option.bind_eq_some_iff.mp H
    obtain ⟨t673, A110, H⟩ := H
    replace H : (if t673 = true then (stowagelaw13_ChainBack.j0 k a1) else (some false)) = some r := H
    have A11 := zazag A110
    clear A110
    by_cases c12 : t673 = true
    ·subst c12
     have H1 : (stowagelaw13_ChainBack.j0 k a1) = some r := by rw [if_pos rfl] at H; exact H
     clear H
     have H := H1
     clear H1
     have H' := zazag H
     clear H
     go_wp2_with (first | ((with_reducible refine gate_callee (f := 32) rfl ?_); refine goesL_ (some 22) rfl rfl Try.func32 (by kernel_rfl) rfl #[.string t661] rfl (by (try simp only [zazad, zazae, zazaf]); first | done | rfl) ?_; (with_reducible refine (chain_Decode.calls k t661 t663 t664 _ A7.out).mono ?_); rintro e w13 ⟨v665, rfl, ho0, hb⟩; refine ⟨_, rfl, ?_⟩; have n0_ := zazag (Kd.S_lower ho0 (below_size (by repeat (first | (with_reducible first | exact HB.out | apply zazac | apply zazaa | apply zazab) | exact HB.out)))); have n1_ := zazag (below_step (by repeat (first | (with_reducible first | exact HB.out | apply zazac | apply zazaa | apply zazab) | exact HB.out)) hb); clear HB; have HO666 := n0_; have HB := n1_; clear n0_ n1_; (try clear hb); (try clear hk); (try clear hi); (try clear ho0); obtain ⟨Ao14, co14, eo14⟩ := Kd.S_slice HO666.out; subst eo14) | (go_at_call 18; (with_reducible refine (stowagelaw13_Refs.calls k _ _ t663 t667 _ ?side1 ?side2 A9.out).mono ?_); (case side1 => repeat (first | exact (Kd.S_reads' HO666.out).2.2 | (with_reducible refine Kd.C_alloc ?_ _) | (with_reducible refine Kd.C_drewN ?_ _) | (with_reducible refine Kd.C_drew ?_))); (case side2 => exact (Kd.S_reads' HO666.out).2.1); rintro e w15 ⟨v668, rfl, ho0, hb⟩; have n0_ := zazag (Kd.S_below (by (with_reducible repeat (first | apply Kd.S_alloc | apply Kd.S_drewN | apply Kd.S_drew)); exact HO666.out) hb); have n1_ := zazag (Kd.S_lower ho0 (below_size (by repeat (first | (with_reducible first | exact HB.out | apply zazac | apply zazaa | apply zazab) | exact HB.out)))); have n2_ := zazag (below_step (by repeat (first | (with_reducible first | exact HB.out | apply zazac | apply zazaa | apply zazab) | exact HB.out)) hb); clear HO666; clear HB; have HO666 := n0_; have HO669 := n1_; have HB := n2_; clear n0_ n1_ n2_; (try clear hb); (try clear hk); (try clear hi); (try clear ho0)) | (go_at_call 18; (with_reducible refine (stowagelaw13_Refs.calls k _ _ l0 t670 _ ?side1 ?side2 A10.out).mono ?_); (case side1 => repeat (first | exact (Kd.C_below HR0.out HB.out) | (with_reducible refine Kd.C_alloc ?_ _) | (with_reducible refine Kd.C_drewN ?_ _) | (with_reducible refine Kd.C_drew ?_))); (case side2 => exact HC0.out); rintro e w16 ⟨v671, rfl, ho0, hb⟩; have n0_ := zazag (Kd.S_below (by (with_reducible repeat (first | apply Kd.S_alloc | apply Kd.S_drewN | apply Kd.S_drew)); exact HO666.out) hb); have n1_ := zazag (Kd.S_elder' (by (with_reducible repeat (first | apply Kd.S_alloc | apply Kd.S_drewN | apply Kd.S_drew)); exact HO669.out) (Kd.S_base ho0) hb); have n2_ := zazag (Kd.S_lower (Kd.S_new' ho0 (Kd.S_lt (by (with_reducible repeat (first | apply Kd.S_alloc | apply Kd.S_drewN | apply Kd.S_drew)); exact HO669.out))) (below_size (by repeat (first | (with_reducible first | exact HB.out | apply zazac | apply zazaa | apply zazab) | exact HB.out)))); have n3_ := zazag (below_step (by repeat (first | (with_reducible first | exact HB.out | apply zazac | apply zazaa | apply zazab) | exact HB.out)) hb); clear HO666; clear HO669; clear HB; have HO666 := n0_; have HO669 := n1_; have HO672 := n2_; have HB := n3_; clear n0_ n1_ n2_ n3_; (try clear hb); (try clear hk); (try clear hi); (try clear ho0); obtain ⟨Ao17, co17, eo17⟩ := Kd.S_slice HO669.out; subst eo17; obtain ⟨Ao18, co18, eo18⟩ := Kd.S_slice HO672.out; subst eo18) | (go_at_call 21; (with_reducible refine (stowageref13_Alike.calls k _ _ t667 _ _ t670 true _ ?side1 ?side2 ?side3 ?side4 A11.out).mono ?_); (case side1 => repeat (first | exact (Kd.S_reads' HO669.out).2.2 | (with_reducible refine Kd.C_alloc ?_ _) | (with_reducible refine Kd.C_drewN ?_ _) | (with_reducible refine Kd.C_drew ?_))); (case side2 => exact (Kd.S_reads' HO669.out).2.1); (case side3 => repeat (first | exact (Kd.S_reads' HO672.out).2.2 | (with_reducible refine Kd.C_alloc ?_ _) | (with_reducible refine Kd.C_drewN ?_ _) | (with_reducible refine Kd.C_drew ?_))); (case side4 => exact (Kd.S_reads' HO672.out).2.1); rintro e w19 ⟨rfl, hb⟩; have n0_ := zazag (Kd.S_below (by (with_reducible repeat (first | apply Kd.S_alloc | apply Kd.S_drewN | apply Kd.S_drew)); exact HO666.out) hb); have n1_ := zazag (Kd.S_below (by (with_reducible repeat (first | apply Kd.S_alloc | apply Kd.S_drewN | apply Kd.S_drew)); exact HO669.out) hb); have n2_ := zazag (Kd.S_below (by (with_reducible repeat (first | apply Kd.S_alloc | apply Kd.S_drewN | apply Kd.S_drew)); exact HO672.out) hb); have n3_ := zazag (below_step (by repeat (first | (with_reducible first | exact HB.out | apply zazac | apply zazaa | apply zazab) | exact HB.out)) hb); clear HO666; clear HO669; clear HO672; clear HB; have HO666 := n0_; have HO669 := n1_; have HO672 := n2_; have HB := n3_; clear n0_ n1_ n2_ n3_; (try clear hb); (try clear hk); (try clear hi)))
     go_meet
     case rel => exact ⟨_, H', ⟨by first | omega | exact Nat.le_refl _⟩, ⟨by repeat (first | (with_reducible first | exact HB.out | apply zazac | apply zazaa | apply zazab) | exact HB.out)⟩⟩
    ·replace c12 := Bool.eq_false_iff.mpr c12
     subst c12
     have H1 : (some false) = some r := by rw [if_neg (show ¬ (false = true) by decide)] at H; exact H
     clear H
     have H := H1
     clear H1
     obtain rfl := Option.some.inj H
     go_wp2_with (first | ((with_reducible refine gate_callee (f := 32) rfl ?_); refine goesL_ (some 22) rfl rfl Try.func32 (by kernel_rfl) rfl #[.string t661] rfl (by (try simp only [zazad, zazae, zazaf]); first | done | rfl) ?_; (with_reducible refine (chain_Decode.calls k t661 t663 t664 _ A7.out).mono ?_); rintro e w20 ⟨v665, rfl, ho0, hb⟩; refine ⟨_, rfl, ?_⟩; have n0_ := zazag (Kd.S_lower ho0 (below_size (by repeat (first | (with_reducible first | exact HB.out | apply zazac | apply zazaa | apply zazab) | exact HB.out)))); have n1_ := zazag (below_step (by repeat (first | (with_reducible first | exact HB.out | apply zazac | apply zazaa | apply zazab) | exact HB.out)) hb); clear HB; have HO666 := n0_; have HB := n1_; clear n0_ n1_; (try clear hb); (try clear hk); (try clear hi); (try clear ho0); obtain ⟨Ao21, co21, eo21⟩ := Kd.S_slice HO666.out; subst eo21) | (go_at_call 18; (with_reducible refine (stowagelaw13_Refs.calls k _ _ t663 t667 _ ?side1 ?side2 A9.out).mono ?_); (case side1 => repeat (first | exact (Kd.S_reads' HO666.out).2.2 | (with_reducible refine Kd.C_alloc ?_ _) | (with_reducible refine Kd.C_drewN ?_ _) | (with_reducible refine Kd.C_drew ?_))); (case side2 => exact (Kd.S_reads' HO666.out).2.1); rintro e w22 ⟨v668, rfl, ho0, hb⟩; have n0_ := zazag (Kd.S_below (by (with_reducible repeat (first | apply Kd.S_alloc | apply Kd.S_drewN | apply Kd.S_drew)); exact HO666.out) hb); have n1_ := zazag (Kd.S_lower ho0 (below_size (by repeat (first | (with_reducible first | exact HB.out | apply zazac | apply zazaa | apply zazab) | exact HB.out)))); have n2_ := zazag (below_step (by repeat (first | (with_reducible first | exact HB.out | apply zazac | apply zazaa | apply zazab) | exact HB.out)) hb); clear HO666; clear HB; have HO666 := n0_; have HO669 := n1_; have HB := n2_; clear n0_ n1_ n2_; (try clear hb); (try clear hk); (try clear hi); (try clear ho0)) | (go_at_call 18; (with_reducible refine (stowagelaw13_Refs.calls k _ _ l0 t670 _ ?side1 ?side2 A10.out).mono ?_); (case side1 => repeat (first | exact (Kd.C_below HR0.out HB.out) | (with_reducible refine Kd.C_alloc ?_ _) | (with_reducible refine Kd.C_drewN ?_ _) | (with_reducible refine Kd.C_drew ?_))); (case side2 => exact HC0.out); rintro e w23 ⟨v671, rfl, ho0, hb⟩; have n0_ := zazag (Kd.S_below (by (with_reducible repeat (first | apply Kd.S_alloc | apply Kd.S_drewN | apply Kd.S_drew)); exact HO666.out) hb); have n1_ := zazag (Kd.S_elder' (by (with_reducible repeat (first | apply Kd.S_alloc | apply Kd.S_drewN | apply Kd.S_drew)); exact HO669.out) (Kd.S_base ho0) hb); have n2_ := zazag (Kd.S_lower (Kd.S_new' ho0 (Kd.S_lt (by (with_reducible repeat (first | apply Kd.S_alloc | apply Kd.S_drewN | apply Kd.S_drew)); exact HO669.out))) (below_size (by repeat (first | (with_reducible first | exact HB.out | apply zazac | apply zazaa | apply zazab) | exact HB.out)))); have n3_ := zazag (below_step (by repeat (first | (with_reducible first | exact HB.out | apply zazac | apply zazaa | apply zazab) | exact HB.out)) hb); clear HO666; clear HO669; clear HB; have HO666 := n0_; have HO669 := n1_; have HO672 := n2_; have HB := n3_; clear n0_ n1_ n2_ n3_; (try clear hb); (try clear hk); (try clear hi); (try clear ho0); obtain ⟨Ao24, co24, eo24⟩ := Kd.S_slice HO669.out; subst eo24; obtain ⟨Ao25, co25, eo25⟩ := Kd.S_slice HO672.out; subst eo25) | (go_at_call 21; (with_reducible refine (stowageref13_Alike.calls k _ _ t667 _ _ t670 false _ ?side1 ?side2 ?side3 ?side4 A11.out).mono ?_); (case side1 => repeat (first | exact (Kd.S_reads' HO669.out).2.2 | (with_reducible refine Kd.C_alloc ?_ _) | (with_reducible refine Kd.C_drewN ?_ _) | (with_reducible refine Kd.C_drew ?_))); (case side2 => exact (Kd.S_reads' HO669.out).2.1); (case side3 => repeat (first | exact (Kd.S_reads' HO672.out).2.2 | (with_reducible refine Kd.C_alloc ?_ _) | (with_reducible refine Kd.C_drewN ?_ _) | (with_reducible refine Kd.C_drew ?_))); (case side4 => exact (Kd.S_reads' HO672.out).2.1); rintro e w26 ⟨rfl, hb⟩; have n0_ := zazag (Kd.S_below (by (with_reducible repeat (first | apply Kd.S_alloc | apply Kd.S_drewN | apply Kd.S_drew)); exact HO666.out) hb); have n1_ := zazag (Kd.S_below (by (with_reducible repeat (first | apply Kd.S_alloc | apply Kd.S_drewN | apply Kd.S_drew)); exact HO669.out) hb); have n2_ := zazag (Kd.S_below (by (with_reducible repeat (first | apply Kd.S_alloc | apply Kd.S_drewN | apply Kd.S_drew)); exact HO672.out) hb); have n3_ := zazag (below_step (by repeat (first | (with_reducible first | exact HB.out | apply zazac | apply zazaa | apply zazab) | exact HB.out)) hb); clear HO666; clear HO669; clear HO672; clear HB; have HO666 := n0_; have HO669 := n1_; have HO672 := n2_; have HB := n3_; clear n0_ n1_ n2_ n3_; (try clear hb); (try clear hk); (try clear hi)))
     go_ret
     exact ⟨by first | rfl | (simp [errW_none, errW_some] <;> rfl) | (simp [*, errW_none, errW_some] <;> rfl), by repeat (first | (with_reducible first | exact HB.out | apply zazac | apply zazaa | apply zazab) | exact HB.out)⟩
   ·rw [if_neg c8] at H
    have c8b0 : (t664 == 0) = false := beq_eq_false_iff_ne.mpr c8
    have c8b1 : (t664 != 0) = true := bne_iff_ne.mpr c8
    obtain rfl := Option.some.inj H
    go_wp2_with (first | ((with_reducible refine gate_callee (f := 32) rfl ?_); refine goesL_ (some 22) rfl rfl Try.func32 (by kernel_rfl) rfl #[.string t661] rfl (by (try simp only [zazad, zazae, zazaf]); first | done | rfl) ?_; (with_reducible refine (chain_Decode.calls k t661 t663 t664 _ A7.out).mono ?_); rintro e w27 ⟨v665, rfl, ho0, hb⟩; refine ⟨_, rfl, ?_⟩; have n0_ := zazag (Kd.S_lower ho0 (below_size (by repeat (first | (with_reducible first | exact HB.out | apply zazac | apply zazaa | apply zazab) | exact HB.out)))); have n1_ := zazag (below_step (by repeat (first | (with_reducible first | exact HB.out | apply zazac | apply zazaa | apply zazab) | exact HB.out)) hb); clear HB; have HO666 := n0_; have HB := n1_; clear n0_ n1_; (try clear hb); (try clear hk); (try clear hi); (try clear ho0)))
    go_ret
    exact ⟨by first | rfl | (simp [errW_none, errW_some] <;> rfl) | (simp [*, errW_none, errW_some] <;> rfl), by repeat (first | (with_reducible first | exact HB.out | apply zazac | apply zazaa | apply zazab) | exact HB.out)⟩
  ·rw [if_neg c6] at H
   have c6b0 : (t662 == 0) = false := beq_eq_false_iff_ne.mpr c6
   have c6b1 : (t662 != 0) = true := bne_iff_ne.mpr c6
   (first | rw [c6b0] | (simp only [i64_w, i32_w]; rw [c6b0]) | skip)
   have H' := zazag H
   clear H
   go_wp2
   go_meet
   case rel => exact ⟨_, H', ⟨by first | omega | exact Nat.le_refl _⟩, ⟨by repeat (first | (with_reducible first | exact HB.out | apply zazac | apply zazaa | apply zazab) | exact HB.out)⟩⟩
 case rest =>
  clear HC4
  try clear c1
  try clear p2
  try clear c3
  try clear c6
  try clear c6b0
  try clear c6b1
  try clear p6
  try clear c8
  try clear c8b0
  try clear c8b1
  try clear c12
  obtain ⟨kq, HA, HJ3, HB⟩ := hcut
  cases kq with
  | zero => exact absurd HA.out (by simp [stowagelaw13_ChainBack.j0])
  | succ kj3 =>
   have H := HA.out
   clear HA
   simp only [stowagelaw13_ChainBack.j0] at H
   replace H := Option.bind_eq_some_iff.mp H
   obtain ⟨⟨t674, t675⟩, A280, H⟩ := H
   replace H : (if t675 = 0 then ((chain_Encode.f kj3 t674).bind fun bt678 => ((stowagelaw13_awake.f kj3).bind fun t680 => (if t680 = true then (if bt678.2 = 0 then (some (bt678.1.toList == a1.toList)) else (some false)) else (some false)))) else ((stowagelaw13_awake.f kj3).bind fun t681 => (if t681 = true then (some ((t674.length : Int) == 0)) else (some false)))) = some r := H
   have A28 := zazag A280
   clear A280
   by_cases c29 : t675 = 0
   ·rw [if_pos c29] at H
    have c29b0 : (t675 == 0) = true := beq_iff_eq.mpr c29
    have c29b1 : (t675 != 0) = false := bne_eq_false_iff_eq.mpr c29
    clear c29
    replace H := Option.bind_eq_some_iff.mp H
    obtain ⟨⟨t678, t679⟩, A300, H⟩ := H
    replace H : ((stowagelaw13_awake.f kj3).bind fun t680 => (if t680 = true then (if t679 = 0 then (some (t678.toList == a1.toList)) else (some false)) else (some false))) = some r := H
    have A30 := zazag A300
    clear A300
    replace H := Option.bind_eq_some_iff.mp H
    obtain ⟨t680, A310, H⟩ := H
    replace H : (if t680 = true then (if t679 = 0 then (some (t678.toList == a1.toList)) else (some false)) else (some false)) = some r := H
    have A31 := zazag A310
    clear A310
    by_cases c32 : t680 = true
    ·subst c32
     have H1 : (if t679 = 0 then (some (t678.toList == a1.toList)) else (some false)) = some r := by rw [if_pos rfl] at H; exact H
     clear H
     have H := H1
     clear H1
     by_cases c33 : t679 = 0
     ·rw [if_pos c33] at H
      have c33b0 : (t679 == 0) = true := beq_iff_eq.mpr c33
      have c33b1 : (t679 != 0) = false := bne_eq_false_iff_eq.mpr c33
      clear c33
      obtain rfl := Option.some.inj H
      go_wp2_with (first | ((with_reducible refine gate_callee (f := 32) rfl ?_); refine goesL_ (some 37) rfl rfl Try.func32 (by kernel_rfl) rfl #[.string a1] rfl (by (try simp only [zazad, zazae, zazaf]); first | done | rfl) ?_; (with_reducible refine (chain_Decode.calls kj3 a1 t674 t675 _ A28.out).mono ?_); rintro e w34 ⟨v676, rfl, ho0, hb⟩; refine ⟨_, rfl, ?_⟩; have n0_ := zazag (Kd.S_lower ho0 (below_size (by repeat (first | (with_reducible first | exact HB.out | apply zazac | apply zazaa | apply zazab) | exact HB.out)))); have n1_ := zazag (below_step (by repeat (first | (with_reducible first | exact HB.out | apply zazac | apply zazaa | apply zazab) | exact HB.out)) hb); clear HB; have HO677 := n0_; have HB := n1_; clear n0_ n1_; (try clear hb); (try clear hk); (try clear hi); (try clear ho0); obtain ⟨Ao35, co35, eo35⟩ := Kd.S_slice HO677.out; subst eo35) | ((with_reducible refine gate_callee (f := 30) rfl ?_); refine goesL_ (some 50) rfl rfl Try.func30 (by kernel_rfl) rfl #[.slice Ao35 t674.length co35] rfl (by (try simp only [zazad, zazae, zazaf]); first | done | rfl) ?_; (with_reducible refine (chain_Encode.calls kj3 _ _ t674 t678 t679 _ ?side1 ?side2 A30.out).mono ?_); (case side1 => repeat (first | exact (Kd.S_reads' HO677.out).2.2 | (with_reducible refine Kd.C_alloc ?_ _) | (with_reducible refine Kd.C_drewN ?_ _) | (with_reducible refine Kd.C_drew ?_))); (case side2 => exact (Kd.S_reads' HO677.out).2.1); rintro e w36 ⟨rfl, hb⟩; refine ⟨_, rfl, ?_⟩; have n0_ := zazag (Kd.S_below (by (with_reducible repeat (first | apply Kd.S_alloc | apply Kd.S_drewN | apply Kd.S_drew)); exact HO677.out) hb); have n1_ := zazag (below_step (by repeat (first | (with_reducible first | exact HB.out | apply zazac | apply zazaa | apply zazab) | exact HB.out)) hb); clear HO677; clear HB; have HO677 := n0_; have HB := n1_; clear n0_ n1_; (try clear hb); (try clear hk); (try clear hi)) | ((with_reducible refine gate_callee (f := 12) rfl ?_); refine goesL_ (some 53) rfl rfl Try.func12 (by kernel_rfl) rfl #[] rfl (by (try simp only [zazad, zazae, zazaf]); first | done | rfl) ?_; (with_reducible refine (stowagelaw13_awake.calls kj3  true _ A31.out).mono ?_); rintro e w37 ⟨rfl, hb⟩; refine ⟨_, rfl, ?_⟩; have n0_ := zazag (Kd.S_below (by (with_reducible repeat (first | apply Kd.S_alloc | apply Kd.S_drewN | apply Kd.S_drew)); exact HO677.out) hb); have n1_ := zazag (below_step (by repeat (first | (with_reducible first | exact HB.out | apply zazac | apply zazaa | apply zazab) | exact HB.out)) hb); clear HO677; clear HB; have HO677 := n0_; have HB := n1_; clear n0_ n1_; (try clear hb); (try clear hk); (try clear hi)))
      go_ret
      exact ⟨by first | rfl | (simp [errW_none, errW_some] <;> rfl) | (simp [*, errW_none, errW_some] <;> rfl), by repeat (first | (with_reducible first | exact HB.out | apply zazac | apply zazaa | apply zazab) | exact HB.out)⟩
     ·rw [if_neg c33] at H
      have c33b0 : (t679 == 0) = false := beq_eq_false_iff_ne.mpr c33
      have c33b1 : (t679 != 0) = true := bne_iff_ne.mpr c33
      obtain rfl := Option.some.inj H
      go_wp2_with (first | ((with_reducible refine gate_callee (f := 32) rfl ?_); refine goesL_ (some 37) rfl rfl Try.func32 (by kernel_rfl) rfl #[.string a1] rfl (by (try simp only [zazad, zazae, zazaf]); first | done | rfl) ?_; (with_reducible refine (chain_Decode.calls kj3 a1 t674 t675 _ A28.out).mono ?_); rintro e w38 ⟨v676, rfl, ho0, hb⟩; refine ⟨_, rfl, ?_⟩; have n0_ := zazag (Kd.S_lower ho0 (below_size (by repeat (first | (with_reducible first | exact HB.out | apply zazac | apply zazaa | apply zazab) | exact HB.out)))); have n1_ := zazag (below_step (by repeat (first | (with_reducible first | exact HB.out | apply zazac | apply zazaa | apply zazab) | exact HB.out)) hb); clear HB; have HO677 := n0_; have HB := n1_; clear n0_ n1_; (try clear hb); (try clear hk); (try clear hi); (try clear ho0); obtain ⟨Ao39, co39, eo39⟩ := Kd.S_slice HO677.out; subst eo39) | ((with_reducible refine gate_callee (f := 30) rfl ?_); refine goesL_ (some 50) rfl rfl Try.func30 (by kernel_rfl) rfl #[.slice Ao39 t674.length co39] rfl (by (try simp only [zazad, zazae, zazaf]); first | done | rfl) ?_; (with_reducible refine (chain_Encode.calls kj3 _ _ t674 t678 t679 _ ?side1 ?side2 A30.out).mono ?_); (case side1 => repeat (first | exact (Kd.S_reads' HO677.out).2.2 | (with_reducible refine Kd.C_alloc ?_ _) | (with_reducible refine Kd.C_drewN ?_ _) | (with_reducible refine Kd.C_drew ?_))); (case side2 => exact (Kd.S_reads' HO677.out).2.1); rintro e w40 ⟨rfl, hb⟩; refine ⟨_, rfl, ?_⟩; have n0_ := zazag (Kd.S_below (by (with_reducible repeat (first | apply Kd.S_alloc | apply Kd.S_drewN | apply Kd.S_drew)); exact HO677.out) hb); have n1_ := zazag (below_step (by repeat (first | (with_reducible first | exact HB.out | apply zazac | apply zazaa | apply zazab) | exact HB.out)) hb); clear HO677; clear HB; have HO677 := n0_; have HB := n1_; clear n0_ n1_; (try clear hb); (try clear hk); (try clear hi)) | ((with_reducible refine gate_callee (f := 12) rfl ?_); refine goesL_ (some 53) rfl rfl Try.func12 (by kernel_rfl) rfl #[] rfl (by (try simp only [zazad, zazae, zazaf]); first | done | rfl) ?_; (with_reducible refine (stowagelaw13_awake.calls kj3  true _ A31.out).mono ?_); rintro e w41 ⟨rfl, hb⟩; refine ⟨_, rfl, ?_⟩; have n0_ := zazag (Kd.S_below (by (with_reducible repeat (first | apply Kd.S_alloc | apply Kd.S_drewN | apply Kd.S_drew)); exact HO677.out) hb); have n1_ := zazag (below_step (by repeat (first | (with_reducible first | exact HB.out | apply zazac | apply zazaa | apply zazab) | exact HB.out)) hb); clear HO677; clear HB; have HO677 := n0_; have HB := n1_; clear n0_ n1_; (try clear hb); (try clear hk); (try clear hi)))
      go_ret
      exact ⟨by first | rfl | (simp [errW_none, errW_some] <;> rfl) | (simp [*, errW_none, errW_some] <;> rfl), by repeat (first | (with_reducible first | exact HB.out | apply zazac | apply zazaa | apply zazab) | exact HB.out)⟩
    ·replace c32 := Bool.eq_false_iff.mpr c32
     subst c32
     have H1 : (some false) = some r := by rw [if_neg (show ¬ (false = true) by decide)] at H; exact H
     clear H
     have H := H1
     clear H1
     obtain rfl := Option.some.inj H
     go_wp2_with (first | ((with_reducible refine gate_callee (f := 32) rfl ?_); refine goesL_ (some 37) rfl rfl Try.func32 (by kernel_rfl) rfl #[.string a1] rfl (by (try simp only [zazad, zazae, zazaf]); first | done | rfl) ?_; (with_reducible refine (chain_Decode.calls kj3 a1 t674 t675 _ A28.out).mono ?_); rintro e w42 ⟨v676, rfl, ho0, hb⟩; refine ⟨_, rfl, ?_⟩; have n0_ := zazag (Kd.S_lower ho0 (below_size (by repeat (first | (with_reducible first | exact HB.out | apply zazac | apply zazaa | apply zazab) | exact HB.out)))); have n1_ := zazag (below_step (by repeat (first | (with_reducible first | exact HB.out | apply zazac | apply zazaa | apply zazab) | exact HB.out)) hb); clear HB; have HO677 := n0_; have HB := n1_; clear n0_ n1_; (try clear hb); (try clear hk); (try clear hi); (try clear ho0); obtain ⟨Ao43, co43, eo43⟩ := Kd.S_slice HO677.out; subst eo43) | ((with_reducible refine gate_callee (f := 30) rfl ?_); refine goesL_ (some 50) rfl rfl Try.func30 (by kernel_rfl) rfl #[.slice Ao43 t674.length co43] rfl (by (try simp only [zazad, zazae, zazaf]); first | done | rfl) ?_; (with_reducible refine (chain_Encode.calls kj3 _ _ t674 t678 t679 _ ?side1 ?side2 A30.out).mono ?_); (case side1 => repeat (first | exact (Kd.S_reads' HO677.out).2.2 | (with_reducible refine Kd.C_alloc ?_ _) | (with_reducible refine Kd.C_drewN ?_ _) | (with_reducible refine Kd.C_drew ?_))); (case side2 => exact (Kd.S_reads' HO677.out).2.1); rintro e w44 ⟨rfl, hb⟩; refine ⟨_, rfl, ?_⟩; have n0_ := zazag (Kd.S_below (by (with_reducible repeat (first | apply Kd.S_alloc | apply Kd.S_drewN | apply Kd.S_drew)); exact HO677.out) hb); have n1_ := zazag (below_step (by repeat (first | (with_reducible first | exact HB.out | apply zazac | apply zazaa | apply zazab) | exact HB.out)) hb); clear HO677; clear HB; have HO677 := n0_; have HB := n1_; clear n0_ n1_; (try clear hb); (try clear hk); (try clear hi)) | ((with_reducible refine gate_callee (f := 12) rfl ?_); refine goesL_ (some 53) rfl rfl Try.func12 (by kernel_rfl) rfl #[] rfl (by (try simp only [zazad, zazae, zazaf]); first | done | rfl) ?_; (with_reducible refine (stowagelaw13_awake.calls kj3  false _ A31.out).mono ?_); rintro e w45 ⟨rfl, hb⟩; refine ⟨_, rfl, ?_⟩; have n0_ := zazag (Kd.S_below (by (with_reducible repeat (first | apply Kd.S_alloc | apply Kd.S_drewN | apply Kd.S_drew)); exact HO677.out) hb); have n1_ := zazag (below_step (by repeat (first | (with_reducible first | exact HB.out | apply zazac | apply zazaa | apply zazab) | exact HB.out)) hb); clear HO677; clear HB; have HO677 := n0_; have HB := n1_; clear n0_ n1_; (try clear hb); (try clear hk); (try clear hi)))
     go_ret
     exact ⟨by first | rfl | (simp [errW_none, errW_some] <;> rfl) | (simp [*, errW_none, errW_some] <;> rfl), by repeat (first | (with_reducible first | exact HB.out | apply zazac | apply zazaa | apply zazab) | exact HB.out)⟩
   ·rw [if_neg c29] at H
    have c29b0 : (t675 == 0) = false := beq_eq_false_iff_ne.mpr c29
    have c29b1 : (t675 != 0) = true := bne_iff_ne.mpr c29
    replace H := Option.bind_eq_some_iff.mp H
    obtain ⟨t681, A460, H⟩ := H
    replace H : (if t681 = true then (some ((t674.length : Int) == 0)) else (some false)) = some r := H
    have A46 := zazag A460
    clear A460
    by_cases c47 : t681 = true
    ·subst c47
     have H1 : (some ((t674.length : Int) == 0)) = some r := by rw [if_pos rfl] at H; exact H
     clear H
     have H := H1
     clear H1
     obtain rfl := Option.some.inj H
     go_wp2_with (first | ((with_reducible refine gate_callee (f := 32) rfl ?_); refine goesL_ (some 37) rfl rfl Try.func32 (by kernel_rfl) rfl #[.string a1] rfl (by (try simp only [zazad, zazae, zazaf]); first | done | rfl) ?_; (with_reducible refine (chain_Decode.calls kj3 a1 t674 t675 _ A28.out).mono ?_); rintro e w48 ⟨v676, rfl, ho0, hb⟩; refine ⟨_, rfl, ?_⟩; have n0_ := zazag (Kd.S_lower ho0 (below_size (by repeat (first | (with_reducible first | exact HB.out | apply zazac | apply zazaa | apply zazab) | exact HB.out)))); have n1_ := zazag (below_step (by repeat (first | (with_reducible first | exact HB.out | apply zazac | apply zazaa | apply zazab) | exact HB.out)) hb); clear HB; have HO677 := n0_; have HB := n1_; clear n0_ n1_; (try clear hb); (try clear hk); (try clear hi); (try clear ho0)) | ((with_reducible refine gate_callee (f := 12) rfl ?_); refine goesL_ (some 42) rfl rfl Try.func12 (by kernel_rfl) rfl #[] rfl (by (try simp only [zazad, zazae, zazaf]); first | done | rfl) ?_; (with_reducible refine (stowagelaw13_awake.calls kj3  true _ A46.out).mono ?_); rintro e w49 ⟨rfl, hb⟩; refine ⟨_, rfl, ?_⟩; have n0_ := zazag (Kd.S_below (by (with_reducible repeat (first | apply Kd.S_alloc | apply Kd.S_drewN | apply Kd.S_drew)); exact HO677.out) hb); have n1_ := zazag (below_step (by repeat (first | (with_reducible first | exact HB.out | apply zazac | apply zazaa | apply zazab) | exact HB.out)) hb); clear HO677; clear HB; have HO677 := n0_; have HB := n1_; clear n0_ n1_; (try clear hb); (try clear hk); (try clear hi); obtain ⟨Ao50, co50, eo50⟩ := Kd.S_slice HO677.out; subst eo50))
     go_ret
     exact ⟨by first | rfl | (simp [errW_none, errW_some] <;> rfl) | (simp [*, errW_none, errW_some] <;> rfl), by repeat (first | (with_reducible first | exact HB.out | apply zazac | apply zazaa | apply zazab) | exact HB.out)⟩
    ·replace c47 := Bool.eq_false_iff.mpr c47
     subst c47
     have H1 : (some false) = some r := by rw [if_neg (show ¬ (false = true) by decide)] at H; exact H
     clear H
     have H := H1
     clear H1
     obtain rfl := Option.some.inj H
     go_wp2_with (first | ((with_reducible refine gate_callee (f := 32) rfl ?_); refine goesL_ (some 37) rfl rfl Try.func32 (by kernel_rfl) rfl #[.string a1] rfl (by (try simp only [zazad, zazae, zazaf]); first | done | rfl) ?_; (with_reducible refine (chain_Decode.calls kj3 a1 t674 t675 _ A28.out).mono ?_); rintro e w51 ⟨v676, rfl, ho0, hb⟩; refine ⟨_, rfl, ?_⟩; have n0_ := zazag (Kd.S_lower ho0 (below_size (by repeat (first | (with_reducible first | exact HB.out | apply zazac | apply zazaa | apply zazab) | exact HB.out)))); have n1_ := zazag (below_step (by repeat (first | (with_reducible first | exact HB.out | apply zazac | apply zazaa | apply zazab) | exact HB.out)) hb); clear HB; have HO677 := n0_; have HB := n1_; clear n0_ n1_; (try clear hb); (try clear hk); (try clear hi); (try clear ho0)) | ((with_reducible refine gate_callee (f := 12) rfl ?_); refine goesL_ (some 42) rfl rfl Try.func12 (by kernel_rfl) rfl #[] rfl (by (try simp only [zazad, zazae, zazaf]); first | done | rfl) ?_; (with_reducible refine (stowagelaw13_awake.calls kj3  false _ A46.out).mono ?_); rintro e w52 ⟨rfl, hb⟩; refine ⟨_, rfl, ?_⟩; have n0_ := zazag (Kd.S_below (by (with_reducible repeat (first | apply Kd.S_alloc | apply Kd.S_drewN | apply Kd.S_drew)); exact HO677.out) hb); have n1_ := zazag (below_step (by repeat (first | (with_reducible first | exact HB.out | apply zazac | apply zazaa | apply zazab) | exact HB.out)) hb); clear HO677; clear HB; have HO677 := n0_; have HB := n1_; clear n0_ n1_; (try clear hb); (try clear hk); (try clear hi)))
     go_ret
     exact ⟨by first | rfl | (simp [errW_none, errW_some] <;> rfl) | (simp [*, errW_none, errW_some] <;> rfl), by repeat (first | (with_reducible first | exact HB.out | apply zazac | apply zazaa | apply zazab) | exact HB.out)⟩

end Go.Proofs.Ytmpnaaegahjfkaa.Q