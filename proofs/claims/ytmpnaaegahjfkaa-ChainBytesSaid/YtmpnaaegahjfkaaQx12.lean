

/- Written by a program of this session (wip/patch_print.py over the kit's print): functions of the given program as plain Lean functions, and that each call does what its function says, under no further conditions. -/
import Derived.Test.YtmpnaaegahjfkaaQx0
import Derived.Test.YtmpnaaegahjfkaaQx9
import Derived.Test.YtmpnaaegahjfkaaQx11
namespace Go.Proofs.Ytmpnaaegahjfkaa.Q
open Go.RowKit Go.Proofs.YtmpnaaegahjfkaaW.PrintWords Go.Proofs.YtmpnaaegahjfkaaW.PrintLast Go.Proofs.YtmpnaaegahjfkaaW.PrintMore
attribute [local go_sem] max2_int min2_int max_two min_two max_three min_three max_four min_four   -- for this text's walks alone
set_option linter.unusedVariables false
set_option linter.unusedSimpArgs false
attribute [local go_sem] xor_ones_u8 xor_ones_u16 xor_ones_u32 xor_ones_u64 cell_twice frozen_twice
abbrev zamae := @pw_below_drewN
abbrev zamaf := @below_drew1
abbrev zamag := @below_alloc
abbrev zamaj := @Aside0.mk
/-! ### stowageref13_Put: function 17 -/
/-! ### stowagelaw13_Refs: function 18 -/
def stowagelaw13_Refs.l0 : Nat → List (S24) → List (S36) → Int → Option ((List (S36)))
 | 0, _, _, _ => none
 | k + 1, x0, x3, x4 => if x4 < (x0.length : Int) then (if 0 ≤ x4 then ((stowagelaw13_Ref.f k ((rd_T24 x0 x4).f0) ((rd_T24 x0 x4).f1) ((rd_T24 x0 x4).f2) ((rd_T24 x0 x4).f3) ((rd_T24 x0 x4).f4)).bind fun bt256 => (if x3.length < 2199023255552 then (stowagelaw13_Refs.l0 k x0 (x3 ++ [(⟨bt256.1, bt256.2.1, bt256.2.2.1, bt256.2.2.2.1, bt256.2.2.2.2⟩ : S36)]) (wrap64 (x4 + 1))) else (none))) else (none)) else (some x3)
def stowagelaw13_Refs.f (k : Nat) (l0 : List (S24)) : Option ((List (S36))) := stowagelaw13_Refs.l0 k l0 ([] : List (S36)) 0
set_option maxHeartbeats 8000000 in
set_option maxRecDepth 100000 in
theorem stowagelaw13_Refs.calls (k : Nat) (A0 : Option Addr) (c0 : Nat) (l0 : List (S24)) (r : List (S36)) (w : World) (hr0 : Kd.C k24 w A0 l0.length l0) (hc0 : l0.length ≤ c0) (h : stowagelaw13_Refs.f k l0 = some r) :
  Calls Try.prog 18 #[.slice A0 l0.length c0] w fun e w' => ∃ v0_ : Value, e = .returned (v0_) ∧ Kd.S k36 36 w' w.heap.size (fun _ => True) v0_ r ∧ Below w.heap.size w w' := by
 have hu24 := Try.underlying24
 have HR0 := zamaj hr0
 have HC0 := zamaj hc0
 clear hr0 hc0
 have HB := zamaj (Below.refl w.heap.size w)
 have H : (stowagelaw13_Refs.l0 k l0 ([] : List (S36)) 0) = some r := h
 clear h
 have H' := zamaj H
 clear H
 go_enter Try.func18, Try.ntmps18
 go_wp2
 go_loopg [3, 4] k (fun kq v3 v4 w' => ∃ (zamas : List (S36)) (zamao : Int), v4 = .int .i64 zamao ∧ Aside0 (stowagelaw13_Refs.l0 kq l0 zamas zamao = some r) ∧ Aside0 (kq ≤ k) ∧ Aside0 (Kd.S k36 36 w' w.heap.size (fun _ => True) v3 zamas) ∧ Aside0 (Below w.heap.size w w'))
 case atStart => exact ⟨(([] : List (S36))), (0), (by first | rfl | (simp; done) | (simp [*]; done)), H', ⟨Nat.le_refl _⟩, ⟨by first | exact Kd.S_nil _ _ _ _ _ | exact Kd.N_nil _ _ _ _ _ | exact Kd.V_nil _ _ _ _ _ | exact Kd.Q_nil _ _ _ _ _ | exact Kd.R_nil _ _ _ _ _⟩, ⟨zh0 HB⟩⟩
 case round =>
  clear H'
  try clear c1
  obtain ⟨zamas, zamao, rfl, HA, HK1, HO_3, HB⟩ := hrel
  cases gk with
  | zero => exact absurd HA.out (by simp [stowagelaw13_Refs.l0])
  | succ k1 =>
   have H := HA.out
   clear HA
   simp only [stowagelaw13_Refs.l0] at H
   by_cases c2 : zamao < (l0.length : Int)
   ·rw [if_pos c2] at H
    have c2b0 : decide (zamao < (l0.length : Int)) = true := decide_eq_true c2
    clear c2
    by_cases c3 : 0 ≤ zamao
    ·rw [if_pos c3] at H
     have c3b0 : decide (0 ≤ zamao) = true := decide_eq_true c3
     clear c3
     replace H := Option.bind_eq_some_iff.mp H
     obtain ⟨⟨t256, t257, t258, t259, t260⟩, A40, H⟩ := H
     replace H : (if zamas.length < 2199023255552 then (stowagelaw13_Refs.l0 k1 l0 (zamas ++ [(⟨t256, t257, t258, t259, t260⟩ : S36)]) (wrap64 (zamao + 1))) else (none)) = some r := H
     have A4 := zamaj A40
     clear A40
     by_cases c5 : zamas.length < 2199023255552
     ·rw [if_pos c5] at H
      have LMc5 := zamaj c5
      clear c5
      obtain ⟨y263, hy263⟩ : ∃ y_ : List (S36), y_ = (zamas ++ [(⟨t256, t257, t258, t259, t260⟩ : S36)]) := ⟨_, rfl⟩
      replace H : (stowagelaw13_Refs.l0 k1 l0 y263 (wrap64 (zamao + 1))) = some r := by first | (rw [hy263]; with_reducible exact H) | (have H2_ := (Option.bind_some _ _).symm.trans H; rw [hy263]; with_reducible exact H2_) | (have H2_ := (Option.bind_some _ _).symm.trans H; with_reducible exact H2_) | with_reducible exact H | (rw [hy263]; exact H) | exact H
      have Ny263 := zamaj hy263
      clear hy263
      have H' := zamaj H
      clear H
      have p255 : 0 ≤ (zamao : Int) := of_decide_eq_true (by first | (with_reducible assumption) | assumption)
      have q255 : zamao < (l0.length : Int) := of_decide_eq_true (by first | (with_reducible assumption) | assumption)
      obtain ⟨ad255, A255_4, c255_4, e255, hx255_0, hx255_1, hx255_2, hx255_3, hx255_4, hl255_4, hi255_4⟩ := at_T24 HR0.out zamao p255 q255
      cases e255
      replace hx255_0 := (HB.out.cell (World.block_lt_of_cell? w _ hx255_0)).trans hx255_0
      replace hx255_1 := (HB.out.cell (World.block_lt_of_cell? w _ hx255_1)).trans hx255_1
      replace hx255_2 := (HB.out.cell (World.block_lt_of_cell? w _ hx255_2)).trans hx255_2
      replace hx255_3 := (HB.out.cell (World.block_lt_of_cell? w _ hx255_3)).trans hx255_3
      replace hx255_4 := (HB.out.cell (World.block_lt_of_cell? w _ hx255_4)).trans hx255_4
      have HR255_4 := zamaj hi255_4
      have HC255_4 := zamaj hl255_4
      clear hi255_4 hl255_4
      replace p255 := eq_true p255
      replace q255 := eq_true q255
      go_wp2_with (first | ((with_reducible refine gate_callee (f := 15) rfl ?_); refine goesL_ (some 16) rfl rfl Try.func15 (by kernel_rfl) rfl #[.agg #[.int .i64 ((rd_T24 l0 zamao).f0), .bool ((rd_T24 l0 zamao).f1), .int .i64 ((rd_T24 l0 zamao).f2), .string ((rd_T24 l0 zamao).f3), .slice A255_4 ((rd_T24 l0 zamao).f4).length c255_4]] rfl (by (try simp only [List.map_toArray, List.map_cons, List.map_nil]); first | done | rfl) ?_; (with_reducible refine (stowagelaw13_Ref.calls k1 ((rd_T24 l0 zamao).f0) ((rd_T24 l0 zamao).f1) ((rd_T24 l0 zamao).f2) ((rd_T24 l0 zamao).f3) _ _ ((rd_T24 l0 zamao).f4) t256 t257 t258 t259 t260 _ ?side1 ?side2 A4.out).mono ?_); (case side1 => repeat (first | exact (Kd.C_below HR255_4.out HB.out) | (with_reducible refine Kd.C_alloc ?_ _) | (with_reducible refine Kd.C_drewN ?_ _) | (with_reducible refine Kd.C_drew ?_))); (case side2 => exact HC255_4.out); rintro e w6 ⟨v261, rfl, ho0, hb⟩; refine ⟨_, rfl, ?_⟩; have n0_ := zamaj (Kd.S_elder' (zsk HO_3) (Kd.R_base ho0) hb); have n1_ := zamaj (Kd.R_lower ho0 (below_size (zh0 HB))); have n2_ := zamaj (below_step (zh0 HB) hb); clear HO_3; clear HB; have HO_3 := n0_; have HO262 := n1_; have HB := n2_; clear n0_ n1_ n2_; (try clear hb); (try clear hk); (try clear hi); (try clear ho0); obtain ⟨Ao8, co8, eo8⟩ := Kd.R_slice HO262.out; subst eo8) | ((with_reducible refine gate_builtin (b := .append) (xs := #[.tmp 11, .tmp 17]) rfl ?_); at_builtin; refine Kd.S_append k36 (w0 := w) w.heap.size rfl (.tmp 11) (.tmp 17) 42 36 (.agg #[(.int .i64 0), (.bool false), (.int .i64 0), (.string ⟨#[]⟩), (.slice none 0 0)]) 64 rfl Try.underlying42 info36 rfl (by decide) (by omega) u3 zamas (⟨t256, t257, t258, t259, t260⟩ : S36) [.int .i64 t256, .bool t257, .int .i64 t258, .string t259, .slice Ao8 t260.length co8] (fun _ => True) (fun k_ => some k_ = (.slice Ao8 t260.length co8 : Value).ownBlock) rfl rfl ?aP (fun k_ hk_ => ((Kd.R_mono (ok' := fun k_ => ((fun _ => True)) k_ ∧ some k_ ≠ (u3 : Value).ownBlock) (Kd.R_apart' (HO262.out) (Kd.S_typed HO_3.out) (by decide)) (fun k_ hk => ⟨trivial, hk.2⟩))).1 k_ hk_.symm) ?aF ?aO ?aB ?aS ?aL ?_; (case aP => exact k36_mkM _ _ _ (⟨t256, t257, t258, t259, t260⟩ : S36) (Kd.R_mono (Kd.R_tight rfl (Kd.R_mono (ok' := fun k_ => ((fun _ => True)) k_ ∧ some k_ ≠ (u3 : Value).ownBlock) (Kd.R_apart' (HO262.out) (Kd.S_typed HO_3.out) (by decide)) (fun k_ hk => ⟨trivial, hk.2⟩))) (fun _ h_ => h_))); (case aB => exact (zh0 HB)); (case aF => exact (fun _ _ => trivial)); (case aO => exact (by (with_reducible repeat (first | apply Kd.S_alloc | apply Kd.S_drewN | apply Kd.S_drew)); exact Kd.S_mono HO_3.out (fun k_ hk => ⟨trivial, fun e_ => hk.2 e_⟩))); (case aS => exact (below_size (zh0 HB))); (case aL => have := LMc5.out; omega); intro v264 w7 ho hb hg hat; rw [← Ny263.out] at ho; have n0_ := zamaj (hb); have n1_ := zamaj (ho); clear HB; clear HO_3; clear HO262; have HB := n0_; have HO265 := n1_; clear n0_ n1_; clear ho hb hg hat))
      go_roundg k1
      case measure => have := HK1.out; omega
      case rel => exact ⟨(y263), (wrap64 (zamao + 1)), (by first | rfl | (simp; done) | (simp [*]; done)), H', ⟨by have := HK1.out; omega⟩, ⟨by (with_reducible repeat (first | apply Kd.S_alloc | apply Kd.S_drewN | apply Kd.S_drew)); exact HO265.out⟩, ⟨zh0 HB⟩⟩
     ·rw [if_neg c5] at H
      exact absurd H (by simp)
    ·rw [if_neg c3] at H
     exact absurd H (by simp)
   ·rw [if_neg c2] at H
    have c2b0 : decide (zamao < (l0.length : Int)) = false := decide_eq_false c2
    clear c2
    obtain rfl := Option.some.inj H
    go_wp2
    go_ret
    exact ⟨_, by first | rfl | (simp [errW_none, errW_some] <;> rfl) | (simp [*, errW_none, errW_some] <;> rfl), by (with_reducible repeat (first | apply Kd.S_alloc | apply Kd.S_drewN | apply Kd.S_drew)); exact HO_3.out, zh0 HB⟩

/-! ### stowageref13_Drop: function 20 -/
end Go.Proofs.Ytmpnaaegahjfkaa.Q