

/- Written by a program of this session (wip/patch_print.py over the kit's print): functions of the given program as plain Lean functions, and that each call does what its function says, under no further conditions. -/
import Derived.Test.YtmpnaaegahjfkaaQx0
import Derived.Test.YtmpnaaegahjfkaaQx7
import Derived.Test.YtmpnaaegahjfkaaQx8
import Derived.Test.YtmpnaaegahjfkaaQx9
import Derived.Test.YtmpnaaegahjfkaaQx12
import Derived.Test.YtmpnaaegahjfkaaQx14
namespace Go.Proofs.Ytmpnaaegahjfkaa.Q
open Go.RowKit Go.Proofs.YtmpnaaegahjfkaaW.PrintWords Go.Proofs.YtmpnaaegahjfkaaW.PrintLast Go.Proofs.YtmpnaaegahjfkaaW.PrintMore
attribute [local go_sem] max2_int min2_int max_two min_two max_three min_three max_four min_four   -- for this text's walks alone
set_option linter.unusedVariables false
set_option linter.unusedSimpArgs false
attribute [local go_sem] xor_ones_u8 xor_ones_u16 xor_ones_u32 xor_ones_u64 cell_twice frozen_twice
abbrev zapaa := @List.setIfInBounds_toArray
abbrev zapab := @List.set_cons_zero
abbrev zapac := @List.set_cons_succ
abbrev zapad := @blk_drewN
abbrev zapae := @blk_alloc
abbrev zapaf := @blk_drew
abbrev zapag := @below_set
abbrev zapah := @pw_below_drewN
abbrev zapai := @below_drew1
abbrev zapaj := @below_alloc
abbrev zapak := @blk_cell
abbrev zapal := @List.map_toArray
abbrev zapam := @List.map_cons
abbrev zapan := @List.map_nil
abbrev zapao := @Aside0.mk
abbrev zapsq0 : Array Bool := #[false, false, false, false, false, false, false, false, false, false]
abbrev zapsq1 : Array Bool := #[true, false, false, false, false, false, false, false, false, false]
abbrev zapsq2 : Array Bool := #[true, false, true, false, false, false, false, false, false, false]
abbrev zapsq3 : Array Bool := #[true, true, true, false, false, false, false, false, false, false]
abbrev zapsq4 : Array Bool := #[true, true, true, true, false, false, false, false, false, false]
abbrev zapsq5 : Array Bool := #[true, true, true, true, true, false, false, false, false, false]
abbrev zapsq6 : Array Bool := #[true, true, true, true, true, true, false, false, false, false]
abbrev zapsq7 : Array Bool := #[true, true, true, true, true, true, true, false, false, false]
abbrev zapsq8 : Array Bool := #[true, true, true, true, true, true, true, true, false, false]
abbrev zapsq9 : Array Bool := #[true, true, true, true, true, true, true, true, true, false]
abbrev zapsq10 : Array Bool := #[true, true, true, true, true, true, true, true, true, true]
/-! ### stowagelaw13_ChainPuts: function 4 -/
def stowagelaw13_ChainPuts.f (k : Nat) (l0 : List (S24)) (a1_0 : Int) (a1_1 : Bool) (a1_2 : Int) (a1_3 : ByteArray) (l1_4 : List (S72)) (a2 : Int) : Option (Bool) := (chain_Put.f k l0 a1_0 a1_1 a1_2 a1_3 l1_4).bind fun bt280 => ((stowagelaw13_Refs.f k l0).bind fun t284 => ((stowagelaw13_Ref.f k a1_0 a1_1 a1_2 a1_3 l1_4).bind fun bt287 => ((stowageref13_Put.f k t284 bt287.1 bt287.2.1 bt287.2.2.1 bt287.2.2.2.1 bt287.2.2.2.2).bind fun bt294 => ((chain_Drop.f k l0 a2).bind fun bt298 => ((stowagelaw13_Refs.f k l0).bind fun t302 => ((stowageref13_Drop.f k t302 a2).bind fun bt305 => ((stowagelaw13_awake.f k).bind fun t309 => (if t309 = true then ((stowagelaw13_Refs.f k bt280.1).bind fun t310 => ((stowageref13_Alike.f k t310 bt294.1).bind fun t313 => (if t313 = true then (if bt280.2 = bt294.2 then ((stowagelaw13_Refs.f k bt298.1).bind fun t314 => ((stowageref13_Alike.f k t314 bt305.1).bind fun t317 => (if t317 = true then (some (bt298.2 == bt305.2)) else (some false)))) else (some false)) else (some false)))) else (some false)))))))))
def stowagelaw13_ChainPuts.T2 : Bool × List (List Nat × List Nat) := (true, [([], []), ([0], [0]), ([], []), ([2, 1], [2]), ([1, 3, 3], [1, 3]), ([4], [4]), ([5], [5]), ([5], [5]), ([6, 4, 0, 1, 2, 3, 4, 5, 6], [6]), ([7, 8, 0, 1, 2, 3, 4, 5, 6, 7, 8], [7])])
def stowagelaw13_ChainPuts.B2 : List Nat := [0, 1, 0, 7, 15, 31, 63, 63, 127, 511]
theorem stowagelaw13_ChainPuts.tab2 : rtab .any (opsOf Try.f4 2) = stowagelaw13_ChainPuts.T2 := by kernel_rfl
theorem stowagelaw13_ChainPuts.bits2 : waitsOk stowagelaw13_ChainPuts.T2.2 stowagelaw13_ChainPuts.B2 = true := by kernel_rfl
set_option maxHeartbeats 8000000 in
set_option maxRecDepth 100000 in
theorem stowagelaw13_ChainPuts.calls (k : Nat) (A0 : Option Addr) (c0 : Nat) (l0 : List (S24)) (a1_0 : Int) (a1_1 : Bool) (a1_2 : Int) (a1_3 : ByteArray) (A1_4 : Option Addr) (c1_4 : Nat) (l1_4 : List (S72)) (a2 : Int) (r : Bool) (w : World) (hr0 : Kd.C k24 w A0 l0.length l0) (hc0 : l0.length ≤ c0) (hr1_4 : Kd.C k72 w A1_4 l1_4.length l1_4) (hc1_4 : l1_4.length ≤ c1_4) (h : stowagelaw13_ChainPuts.f k l0 a1_0 a1_1 a1_2 a1_3 l1_4 a2 = some r) (hT : r = true) :
  Calls Try.prog 4 #[.slice A0 l0.length c0, .agg #[.int .i64 a1_0, .bool a1_1, .int .i64 a1_2, .string a1_3, .slice A1_4 l1_4.length c1_4], .int .i64 a2] w fun e w' => e = .returned (.bool r) ∧ Below w.heap.size w w' := by
 have hu24 := Try.underlying24
 have HR0 := zapao hr0
 have HC0 := zapao hc0
 clear hr0 hc0
 have HR1_4 := zapao hr1_4
 have HC1_4 := zapao hc1_4
 clear hr1_4 hc1_4
 have HTR : Aside0 (r = true) := ⟨hT⟩
 clear hT
 have HB := zapao (Below.refl w.heap.size w)
 have H : ((chain_Put.f k l0 a1_0 a1_1 a1_2 a1_3 l1_4).bind fun bt280 => ((stowagelaw13_Refs.f k l0).bind fun t284 => ((stowagelaw13_Ref.f k a1_0 a1_1 a1_2 a1_3 l1_4).bind fun bt287 => ((stowageref13_Put.f k t284 bt287.1 bt287.2.1 bt287.2.2.1 bt287.2.2.2.1 bt287.2.2.2.2).bind fun bt294 => ((chain_Drop.f k l0 a2).bind fun bt298 => ((stowagelaw13_Refs.f k l0).bind fun t302 => ((stowageref13_Drop.f k t302 a2).bind fun bt305 => ((stowagelaw13_awake.f k).bind fun t309 => (if t309 = true then ((stowagelaw13_Refs.f k bt280.1).bind fun t310 => ((stowageref13_Alike.f k t310 bt294.1).bind fun t313 => (if t313 = true then (if bt280.2 = bt294.2 then ((stowagelaw13_Refs.f k bt298.1).bind fun t314 => ((stowageref13_Alike.f k t314 bt305.1).bind fun t317 => (if t317 = true then (some (bt298.2 == bt305.2)) else (some false)))) else (some false)) else (some false)))) else (some false)))))))))) = some r := h
 clear h
 replace H := Option.bind_eq_some_iff.mp H
 obtain ⟨⟨t280, t283⟩, A40, H⟩ := H
 replace H : ((stowagelaw13_Refs.f k l0).bind fun t284 => ((stowagelaw13_Ref.f k a1_0 a1_1 a1_2 a1_3 l1_4).bind fun bt287 => ((stowageref13_Put.f k t284 bt287.1 bt287.2.1 bt287.2.2.1 bt287.2.2.2.1 bt287.2.2.2.2).bind fun bt294 => ((chain_Drop.f k l0 a2).bind fun bt298 => ((stowagelaw13_Refs.f k l0).bind fun t302 => ((stowageref13_Drop.f k t302 a2).bind fun bt305 => ((stowagelaw13_awake.f k).bind fun t309 => (if t309 = true then ((stowagelaw13_Refs.f k t280).bind fun t310 => ((stowageref13_Alike.f k t310 bt294.1).bind fun t313 => (if t313 = true then (if t283 = bt294.2 then ((stowagelaw13_Refs.f k bt298.1).bind fun t314 => ((stowageref13_Alike.f k t314 bt305.1).bind fun t317 => (if t317 = true then (some (bt298.2 == bt305.2)) else (some false)))) else (some false)) else (some false)))) else (some false))))))))) = some r := H
 have A4 := zapao A40
 clear A40
 replace H := Option.bind_eq_some_iff.mp H
 obtain ⟨t284, A50, H⟩ := H
 replace H : ((stowagelaw13_Ref.f k a1_0 a1_1 a1_2 a1_3 l1_4).bind fun bt287 => ((stowageref13_Put.f k t284 bt287.1 bt287.2.1 bt287.2.2.1 bt287.2.2.2.1 bt287.2.2.2.2).bind fun bt294 => ((chain_Drop.f k l0 a2).bind fun bt298 => ((stowagelaw13_Refs.f k l0).bind fun t302 => ((stowageref13_Drop.f k t302 a2).bind fun bt305 => ((stowagelaw13_awake.f k).bind fun t309 => (if t309 = true then ((stowagelaw13_Refs.f k t280).bind fun t310 => ((stowageref13_Alike.f k t310 bt294.1).bind fun t313 => (if t313 = true then (if t283 = bt294.2 then ((stowagelaw13_Refs.f k bt298.1).bind fun t314 => ((stowageref13_Alike.f k t314 bt305.1).bind fun t317 => (if t317 = true then (some (bt298.2 == bt305.2)) else (some false)))) else (some false)) else (some false)))) else (some false)))))))) = some r := H
 have A5 := zapao A50
 clear A50
 replace H := Option.bind_eq_some_iff.mp H
 obtain ⟨⟨t287, t288, t289, t290, t291⟩, A60, H⟩ := H
 replace H : ((stowageref13_Put.f k t284 t287 t288 t289 t290 t291).bind fun bt294 => ((chain_Drop.f k l0 a2).bind fun bt298 => ((stowagelaw13_Refs.f k l0).bind fun t302 => ((stowageref13_Drop.f k t302 a2).bind fun bt305 => ((stowagelaw13_awake.f k).bind fun t309 => (if t309 = true then ((stowagelaw13_Refs.f k t280).bind fun t310 => ((stowageref13_Alike.f k t310 bt294.1).bind fun t313 => (if t313 = true then (if t283 = bt294.2 then ((stowagelaw13_Refs.f k bt298.1).bind fun t314 => ((stowageref13_Alike.f k t314 bt305.1).bind fun t317 => (if t317 = true then (some (bt298.2 == bt305.2)) else (some false)))) else (some false)) else (some false)))) else (some false))))))) = some r := H
 have A6 := zapao A60
 clear A60
 replace H := Option.bind_eq_some_iff.mp H
 obtain ⟨⟨t294, t297⟩, A70, H⟩ := H
 replace H : ((chain_Drop.f k l0 a2).bind fun bt298 => ((stowagelaw13_Refs.f k l0).bind fun t302 => ((stowageref13_Drop.f k t302 a2).bind fun bt305 => ((stowagelaw13_awake.f k).bind fun t309 => (if t309 = true then ((stowagelaw13_Refs.f k t280).bind fun t310 => ((stowageref13_Alike.f k t310 t294).bind fun t313 => (if t313 = true then (if t283 = t297 then ((stowagelaw13_Refs.f k bt298.1).bind fun t314 => ((stowageref13_Alike.f k t314 bt305.1).bind fun t317 => (if t317 = true then (some (bt298.2 == bt305.2)) else (some false)))) else (some false)) else (some false)))) else (some false)))))) = some r := H
 have A7 := zapao A70
 clear A70
 replace H := Option.bind_eq_some_iff.mp H
 obtain ⟨⟨t298, t301⟩, A80, H⟩ := H
 replace H : ((stowagelaw13_Refs.f k l0).bind fun t302 => ((stowageref13_Drop.f k t302 a2).bind fun bt305 => ((stowagelaw13_awake.f k).bind fun t309 => (if t309 = true then ((stowagelaw13_Refs.f k t280).bind fun t310 => ((stowageref13_Alike.f k t310 t294).bind fun t313 => (if t313 = true then (if t283 = t297 then ((stowagelaw13_Refs.f k t298).bind fun t314 => ((stowageref13_Alike.f k t314 bt305.1).bind fun t317 => (if t317 = true then (some (t301 == bt305.2)) else (some false)))) else (some false)) else (some false)))) else (some false))))) = some r := H
 have A8 := zapao A80
 clear A80
 replace H := Option.bind_eq_some_iff.mp H
 obtain ⟨t302, A90, H⟩ := H
 replace H : ((stowageref13_Drop.f k t302 a2).bind fun bt305 => ((stowagelaw13_awake.f k).bind fun t309 => (if t309 = true then ((stowagelaw13_Refs.f k t280).bind fun t310 => ((stowageref13_Alike.f k t310 t294).bind fun t313 => (if t313 = true then (if t283 = t297 then ((stowagelaw13_Refs.f k t298).bind fun t314 => ((stowageref13_Alike.f k t314 bt305.1).bind fun t317 => (if t317 = true then (some (t301 == bt305.2)) else (some false)))) else (some false)) else (some false)))) else (some false)))) = some r := H
 have A9 := zapao A90
 clear A90
 replace H := Option.bind_eq_some_iff.mp H
 obtain ⟨⟨t305, t308⟩, A100, H⟩ := H
 replace H : ((stowagelaw13_awake.f k).bind fun t309 => (if t309 = true then ((stowagelaw13_Refs.f k t280).bind fun t310 => ((stowageref13_Alike.f k t310 t294).bind fun t313 => (if t313 = true then (if t283 = t297 then ((stowagelaw13_Refs.f k t298).bind fun t314 => ((stowageref13_Alike.f k t314 t305).bind fun t317 => (if t317 = true then (some (t301 == t308)) else (some false)))) else (some false)) else (some false)))) else (some false))) = some r := H
 have A10 := zapao A100
 clear A100
 replace H := Option.bind_eq_some_iff.mp H
 obtain ⟨t309, A110, H⟩ := H
 replace H : (if t309 = true then ((stowagelaw13_Refs.f k t280).bind fun t310 => ((stowageref13_Alike.f k t310 t294).bind fun t313 => (if t313 = true then (if t283 = t297 then ((stowagelaw13_Refs.f k t298).bind fun t314 => ((stowageref13_Alike.f k t314 t305).bind fun t317 => (if t317 = true then (some (t301 == t308)) else (some false)))) else (some false)) else (some false)))) else (some false)) = some r := H
 have A11 := zapao A110
 clear A110
 by_cases c12 : t309 = true
 ·subst c12
  have H1 : ((stowagelaw13_Refs.f k t280).bind fun t310 => ((stowageref13_Alike.f k t310 t294).bind fun t313 => (if t313 = true then (if t283 = t297 then ((stowagelaw13_Refs.f k t298).bind fun t314 => ((stowageref13_Alike.f k t314 t305).bind fun t317 => (if t317 = true then (some (t301 == t308)) else (some false)))) else (some false)) else (some false)))) = some r := by rw [if_pos rfl] at H; exact H
  clear H
  have H := H1
  clear H1
  replace H := Option.bind_eq_some_iff.mp H
  obtain ⟨t310, A130, H⟩ := H
  replace H : ((stowageref13_Alike.f k t310 t294).bind fun t313 => (if t313 = true then (if t283 = t297 then ((stowagelaw13_Refs.f k t298).bind fun t314 => ((stowageref13_Alike.f k t314 t305).bind fun t317 => (if t317 = true then (some (t301 == t308)) else (some false)))) else (some false)) else (some false))) = some r := H
  have A13 := zapao A130
  clear A130
  replace H := Option.bind_eq_some_iff.mp H
  obtain ⟨t313, A140, H⟩ := H
  replace H : (if t313 = true then (if t283 = t297 then ((stowagelaw13_Refs.f k t298).bind fun t314 => ((stowageref13_Alike.f k t314 t305).bind fun t317 => (if t317 = true then (some (t301 == t308)) else (some false)))) else (some false)) else (some false)) = some r := H
  have A14 := zapao A140
  clear A140
  by_cases c15 : t313 = true
  ·subst c15
   have H1 : (if t283 = t297 then ((stowagelaw13_Refs.f k t298).bind fun t314 => ((stowageref13_Alike.f k t314 t305).bind fun t317 => (if t317 = true then (some (t301 == t308)) else (some false)))) else (some false)) = some r := by rw [if_pos rfl] at H; exact H
   clear H
   have H := H1
   clear H1
   by_cases c16 : t283 = t297
   ·rw [if_pos c16] at H
    have c16b0 : (t283 == t297) = true := beq_iff_eq.mpr c16
    have c16b1 : (t283 != t297) = false := bne_eq_false_iff_eq.mpr c16
    clear c16
    replace H := Option.bind_eq_some_iff.mp H
    obtain ⟨t314, A170, H⟩ := H
    replace H : ((stowageref13_Alike.f k t314 t305).bind fun t317 => (if t317 = true then (some (t301 == t308)) else (some false))) = some r := H
    have A17 := zapao A170
    clear A170
    replace H := Option.bind_eq_some_iff.mp H
    obtain ⟨t317, A180, H⟩ := H
    replace H : (if t317 = true then (some (t301 == t308)) else (some false)) = some r := H
    have A18 := zapao A180
    clear A180
    by_cases c19 : t317 = true
    ·subst c19
     have H1 : (some (t301 == t308)) = some r := by rw [if_pos rfl] at H; exact H
     clear H
     have H := H1
     clear H1
     obtain rfl := Option.some.inj H
     go_enter Try.func4, Try.ntmps4
     try go_wp2_with (first | ((with_reducible refine gate_dst (N := 4) rfl ?_); refine box_event ?hg (N := 4) ?hd (cs := #[.int .i64 a1_0, .bool a1_1, .int .i64 a1_2, .string a1_3, .slice A1_4 l1_4.length c1_4]) (t := 24) ?hr ?_; (case hd => rfl); (case hg => rfl); (case hr => first | (go_simp; done) | (go_simp; rfl)); intro zapar hg w20 hbox hb; have n0_ := zapao (below_step (by repeat (first | (with_reducible first | exact HB.out | apply zapaj | apply zapah | apply zapai) | exact HB.out)) hb); have n1_ := zapao (hbox); have n2_ := zapao ((by rw [hg]; exact (below_size (by repeat (first | (with_reducible first | exact HB.out | apply zapaj | apply zapah | apply zapai) | exact HB.out))) : w.heap.size ≤ zapar)); have n3_ := zapao ((by rw [hg]; exact (below_size (by repeat (first | (with_reducible first | exact HB.out | apply zapaj | apply zapah | apply zapai) | exact HB.out))) : w.heap.size ≤ zapar)); clear HB; have HB := n0_; have zapaq := n1_; have zapbd := n2_; have zapas := n3_; clear n0_ n1_ n2_ n3_; clear hb hbox hg; have zapat : w20.cell? ⟨zapar, 0, none⟩ = some (.int .i64 a1_0) := (zapak zapaq.out 0).trans rfl; have zapau : w20.cell? ⟨zapar, 1, none⟩ = some (.bool a1_1) := (zapak zapaq.out 1).trans rfl; have zapav : w20.cell? ⟨zapar, 2, none⟩ = some (.int .i64 a1_2) := (zapak zapaq.out 2).trans rfl; have zapaw : w20.cell? ⟨zapar, 3, none⟩ = some (.string a1_3) := (zapak zapaq.out 3).trans rfl; have zapax : w20.cell? ⟨zapar, 4, none⟩ = some (.slice A1_4 l1_4.length c1_4) := (zapak zapaq.out 4).trans rfl; have zapay := blk_frozen zapaq.out 0; have zapaz := blk_frozen zapaq.out 1; have zapba := blk_frozen zapaq.out 2; have zapbb := blk_frozen zapaq.out 3; have zapbc := blk_frozen zapaq.out 4) | ((with_reducible refine gate_callee (f := 16) rfl ?_); refine goesL_ (some 18) rfl rfl Try.func16 (by kernel_rfl) rfl #[.slice A0 l0.length c0, .agg #[.int .i64 a1_0, .bool a1_1, .int .i64 a1_2, .string a1_3, .slice A1_4 l1_4.length c1_4]] rfl (by (try simp only [zapal, zapam, zapan]); first | done | rfl) ?_; (with_reducible refine (chain_Put.calls k _ _ l0 a1_0 a1_1 a1_2 a1_3 _ _ l1_4 t280 t283 _ ?side1 ?side2 ?side3 ?side4 A4.out).mono ?_); (case side1 => repeat (first | exact (Kd.C_below HR0.out HB.out) | (with_reducible refine Kd.C_alloc ?_ _) | (with_reducible refine Kd.C_drewN ?_ _) | (with_reducible refine Kd.C_drew ?_))); (case side2 => exact HC0.out); (case side3 => repeat (first | exact (Kd.C_below HR1_4.out HB.out) | (with_reducible refine Kd.C_alloc ?_ _) | (with_reducible refine Kd.C_drewN ?_ _) | (with_reducible refine Kd.C_drew ?_))); (case side4 => exact HC1_4.out); rintro e w22 ⟨v281, rfl, ho0, hb⟩; refine ⟨_, rfl, ?_⟩; have n0_ := zapao (Kd.N_lower (Kd.N_mono (ok' := fun k_ => k_ ≠ zapar) ho0 (fun k_ hk_ => (Kd.freshB (g := zapar) (o := .cells #[.int .i64 a1_0, .bool a1_1, .int .i64 a1_2, .string a1_3, .slice A1_4 l1_4.length c1_4] 24 (0, 0)) (by (with_reducible repeat (first | refine zapad ?_ _ | refine zapaf ?_ | refine zapae ?_ _)); exact zapaq.out) k_ hk_))) (below_size (by repeat (first | (with_reducible first | exact HB.out | apply zapaj | apply zapah | apply zapai | refine zapag ?_ zapas.out) | exact HB.out)))); have n1_ := zapao (blk_below (g := zapar) (o := .cells #[.int .i64 a1_0, .bool a1_1, .int .i64 a1_2, .string a1_3, .slice A1_4 l1_4.length c1_4] 24 (0, 0)) (by (with_reducible repeat (first | refine zapad ?_ _ | refine zapaf ?_ | refine zapae ?_ _)); exact zapaq.out) hb); have n2_ := zapao (below_step (by repeat (first | (with_reducible first | exact HB.out | apply zapaj | apply zapah | apply zapai | refine zapag ?_ zapas.out) | exact HB.out)) hb); clear zapaq; clear HB; have HO282 := n0_; have zapaq := n1_; have HB := n2_; clear n0_ n1_ n2_; (try clear hb); (try clear hk); (try clear hi); (try clear ho0)))
     have n0_ := zapao (Kd.N_drew HO282.out)
     have n1_ := zapao (zapaf zapaq.out)
     have n2_ := zapao (zapai HB.out)
     clear HO282
     clear zapaq
     clear HB
     have HO282 := n0_
     have zapaq := n1_
     have HB := n2_
     clear n0_ n1_ n2_
     refine start_ (n := 10) (S := fun w' => w'.cell? ⟨zapar, 0, none⟩ = some (.int .i64 a1_0) ∧ w'.cell? ⟨zapar, 1, none⟩ = some (.bool a1_1) ∧ w'.cell? ⟨zapar, 2, none⟩ = some (.int .i64 a1_2) ∧ w'.cell? ⟨zapar, 3, none⟩ = some (.string a1_3) ∧ w'.cell? ⟨zapar, 4, none⟩ = some (.slice A1_4 l1_4.length c1_4)) (ds := []) zapsq0 (by kernel_rfl) rfl rfl ⟨(zapak zapaq.out 0).trans rfl, (zapak zapaq.out 1).trans rfl, (zapak zapaq.out 2).trans rfl, (zapak zapaq.out 3).trans rfl, (zapak zapaq.out 4).trans rfl⟩ (fun hHeld => ?_); refine with_tabW stowagelaw13_ChainPuts.tab2 stowagelaw13_ChainPuts.bits2 (fun HT_ HW_ => ?_)
     generalize w22.drew = w23 at HO282 zapaq HB hHeld ⊢
     refine pure_ (i := 0) (N := some 22) (v := ?_) (a' := ?_) zapsq1 rfl rfl (any_of HT_.out (by kernel_rfl)) (fun _ _ _ h => h) (Or.inl ⟨by rfl, ?_⟩) ?_ ?_
     rotate_left
     ·intro w'
      go_simp
      with_reducible rfl
     rotate_left
     ·simp only [Act.put, zapaa, zapab, zapac, i64_w, i32_w]
      rfl
     refine take_ (i := 2) (N := some 24) (v := ?_) (a' := ?_) zapsq2 rfl rfl (take_ofW HT_.out HW_.out (by kernel_rfl)) (fun _ _ _ h => h) (Or.inl ⟨by rfl, ?_⟩) hHeld ?_ ?_
     rotate_left
     ·rintro w' ⟨s0, s1, s2, s3, s4⟩
      go_simp
      with_reducible rfl
     rotate_left
     ·simp only [Act.put, zapaa, zapab, zapac, i64_w, i32_w]
      rfl
     refine one_ (i := 1) (N := some 23) zapsq3 rfl rfl (one_of HT_.out (by kernel_rfl)) (by decide) (fun K hK => ?_)
     refine goes_ Try.func18 (by kernel_rfl) rfl #[.slice A0 l0.length c0] (by rfl) rfl rfl (by (try simp only [zapal, zapam, zapan]); first | done | rfl) ?_
     with_reducible refine (stowagelaw13_Refs.calls k _ _ l0 t284 _ ?side1 ?side2 A5.out).mono ?_
     (case side1 => repeat (first | exact (Kd.C_below HR0.out HB.out) | (with_reducible refine Kd.C_alloc ?_ _) | (with_reducible refine Kd.C_drewN ?_ _) | (with_reducible refine Kd.C_drew ?_)))
     (case side2 => exact HC0.out)
     rintro e w24 ⟨v285, rfl, ho0, hb⟩
     refine ⟨_, rfl, ?_⟩
     have n0_ := zapao (Kd.N_elder' (by (with_reducible repeat (first | apply Kd.N_alloc | apply Kd.N_drewN | apply Kd.N_drew)); exact HO282.out) (by first | exact Kd.N_base ho0 | exact Kd.N_base (Kd.S_N ho0)) hb)
     have n1_ := zapao (Kd.N_lower (Kd.N_mono (ok' := fun k_ => some k_ ≠ (v281 : Value).ownBlock ∧ k_ ≠ zapar) (Kd.S_N (Kd.S_bound ho0)) (fun k_ hk_ => ⟨(Kd.fresh' (Kd.N_lt (by (with_reducible repeat (first | apply Kd.N_alloc | apply Kd.N_drewN | apply Kd.N_drew)); exact HO282.out)) k_ hk_.2.1), (Kd.freshB (g := zapar) (o := .cells #[.int .i64 a1_0, .bool a1_1, .int .i64 a1_2, .string a1_3, .slice A1_4 l1_4.length c1_4] 24 (0, 0)) (by (with_reducible repeat (first | refine zapad ?_ _ | refine zapaf ?_ | refine zapae ?_ _)); exact zapaq.out) k_ hk_.2.1)⟩)) (below_size (by repeat (first | (with_reducible first | exact HB.out | apply zapaj | apply zapah | apply zapai | refine zapag ?_ zapas.out) | exact HB.out))))
     have n2_ := zapao (blk_below (g := zapar) (o := .cells #[.int .i64 a1_0, .bool a1_1, .int .i64 a1_2, .string a1_3, .slice A1_4 l1_4.length c1_4] 24 (0, 0)) (by (with_reducible repeat (first | refine zapad ?_ _ | refine zapaf ?_ | refine zapae ?_ _)); exact zapaq.out) hb)
     have n3_ := zapao (below_step (by repeat (first | (with_reducible first | exact HB.out | apply zapaj | apply zapah | apply zapai | refine zapag ?_ zapas.out) | exact HB.out)) hb)
     clear HO282
     clear zapaq
     clear HB
     have HO282 := n0_
     have HO286 := n1_
     have zapaq := n2_
     have HB := n3_
     clear n0_ n1_ n2_ n3_
     (try clear hb)
     (try clear hb2)
     (try clear hk)
     (try clear hi)
     (try clear ho0)
     refine hK.out _ _ ⟨(zapak zapaq.out 0).trans rfl, (zapak zapaq.out 1).trans rfl, (zapak zapaq.out 2).trans rfl, (zapak zapaq.out 3).trans rfl, (zapak zapaq.out 4).trans rfl⟩ (fun hHeld => ?_)
     clear hK K
     refine norm_ (a' := ?_) ?_ ?_
     rotate_left
     ·show Act.put _ (some 23) _ = _
      simp only [Act.put, zapaa, zapab, zapac, i64_w, i32_w]
      rfl
     refine one_ (i := 3) (N := some 25) zapsq4 rfl rfl (one_of HT_.out (by kernel_rfl)) (by decide) (fun K hK => ?_)
     refine goes_ Try.func15 (by kernel_rfl) rfl #[.agg #[.int .i64 a1_0, .bool a1_1, .int .i64 a1_2, .string a1_3, .slice A1_4 l1_4.length c1_4]] (by rfl) rfl rfl (by (try simp only [zapal, zapam, zapan]); first | done | rfl) ?_
     with_reducible refine (stowagelaw13_Ref.calls k a1_0 a1_1 a1_2 a1_3 _ _ l1_4 t287 t288 t289 t290 t291 _ ?side1 ?side2 A6.out).mono ?_
     (case side1 => repeat (first | exact (Kd.C_below HR1_4.out HB.out) | (with_reducible refine Kd.C_alloc ?_ _) | (with_reducible refine Kd.C_drewN ?_ _) | (with_reducible refine Kd.C_drew ?_)))
     (case side2 => exact HC1_4.out)
     rintro e w25 ⟨v292, rfl, ho0, hb⟩
     refine ⟨_, rfl, ?_⟩
     have n0_ := zapao (Kd.N_elder' (by (with_reducible repeat (first | apply Kd.N_alloc | apply Kd.N_drewN | apply Kd.N_drew)); exact HO282.out) (Kd.R_base ho0) hb)
     have n1_ := zapao (Kd.N_elder' (by (with_reducible repeat (first | apply Kd.N_alloc | apply Kd.N_drewN | apply Kd.N_drew)); exact HO286.out) (Kd.R_base ho0) hb)
     have n2_ := zapao (Kd.R_lower ho0 (below_size (by repeat (first | (with_reducible first | exact HB.out | apply zapaj | apply zapah | apply zapai | refine zapag ?_ zapas.out) | exact HB.out))))
     have n3_ := zapao (blk_below (g := zapar) (o := .cells #[.int .i64 a1_0, .bool a1_1, .int .i64 a1_2, .string a1_3, .slice A1_4 l1_4.length c1_4] 24 (0, 0)) (by (with_reducible repeat (first | refine zapad ?_ _ | refine zapaf ?_ | refine zapae ?_ _)); exact zapaq.out) hb)
     have n4_ := zapao (below_step (by repeat (first | (with_reducible first | exact HB.out | apply zapaj | apply zapah | apply zapai | refine zapag ?_ zapas.out) | exact HB.out)) hb)
     clear HO282
     clear HO286
     clear zapaq
     clear HB
     have HO282 := n0_
     have HO286 := n1_
     have HO293 := n2_
     have zapaq := n3_
     have HB := n4_
     clear n0_ n1_ n2_ n3_ n4_
     (try clear hb)
     (try clear hb2)
     (try clear hk)
     (try clear hi)
     (try clear ho0)
     obtain ⟨Ao26, co26, eo26⟩ := Kd.N_slice HO286.out
     (first | subst eo26 | (injection eo26 with f1_ f2_ f3_; have f4_ := f1_.symm; have f5_ := f3_.symm; clear f1_ f2_ f3_; subst f4_; subst f5_))
     obtain ⟨Ao27, co27, eo27⟩ := Kd.R_slice HO293.out
     (first | subst eo27 | (injection eo27 with f1_ f2_ f3_; have f4_ := f1_.symm; have f5_ := f3_.symm; clear f1_ f2_ f3_; subst f4_; subst f5_))
     refine hK.out _ _ ⟨(zapak zapaq.out 0).trans rfl, (zapak zapaq.out 1).trans rfl, (zapak zapaq.out 2).trans rfl, (zapak zapaq.out 3).trans rfl, (zapak zapaq.out 4).trans rfl⟩ (fun hHeld => ?_)
     clear hK K
     refine norm_ (a' := ?_) ?_ ?_
     rotate_left
     ·show Act.put _ (some 25) _ = _
      simp only [Act.put, zapaa, zapab, zapac, i64_w, i32_w]
      rfl
     refine one_ (i := 4) (N := some 26) zapsq5 rfl rfl (one_of HT_.out (by kernel_rfl)) (by decide) (fun K hK => ?_)
     refine goes_ Try.func17 (by kernel_rfl) rfl #[.slice Ao26 t284.length co26, .agg #[.int .i64 t287, .bool t288, .int .i64 t289, .string t290, .slice Ao27 t291.length co27]] (by rfl) rfl rfl (by (try simp only [zapal, zapam, zapan]); first | done | rfl) ?_
     with_reducible refine (stowageref13_Put.calls k (fun k_ => ((some k_ ≠ (v281 : Value).ownBlock ∧ k_ ≠ zapar) ∧ some k_ ≠ (.slice Ao27 t291.length co27 : Value).ownBlock)) _ _ t284 t287 t288 t289 t290 (fun k_ => some k_ = (.slice Ao27 t291.length co27 : Value).ownBlock) _ _ t291 t294 t297 _ ?side1 ?side2 A7.out).mono ?_
     (case side1 => exact Kd.N_V (HO286.out))
     (case side2 => exact Kd.R_V (Kd.R_tight rfl (Kd.R_types (Kd.R_apart' (Kd.R_apart' (HO293.out) (Kd.N_typed HO282.out) (by decide)) (Kd.N_typed HO286.out) (by decide)) zapaq.out (by decide))))
     rintro e w28 ⟨v295, rfl, ho0, hb⟩
     refine ⟨_, rfl, ?_⟩
     have n0_ := zapao (Kd.N_elder' (by (with_reducible repeat (first | apply Kd.N_alloc | apply Kd.N_drewN | apply Kd.N_drew)); exact HO282.out) (by first | exact Kd.N_base ho0 | exact Kd.N_base (Kd.S_N ho0)) hb)
     have n1_ := zapao (Kd.N_elder' (by (with_reducible repeat (first | apply Kd.N_alloc | apply Kd.N_drewN | apply Kd.N_drew)); exact HO286.out) (by first | exact Kd.N_base ho0 | exact Kd.N_base (Kd.S_N ho0)) hb)
     have n2_ := zapao (Kd.R_below (by (with_reducible repeat (first | apply Kd.R_alloc | apply Kd.R_drewN | apply Kd.R_drew)); exact HO293.out) hb)
     have n3_ := zapao (Kd.N_lower (Kd.N_mono (ok' := fun k_ => some k_ ≠ (v281 : Value).ownBlock ∧ k_ ≠ zapar) ho0 (fun k_ hk_ => ⟨Or.elim hk_ (fun hs_ => Or.elim hs_ (fun hs_ => hs_.1.1) (fun hs_ => ((Kd.R_types (Kd.R_apart' (Kd.R_apart' (HO293.out) (Kd.N_typed HO282.out) (by decide)) (Kd.N_typed HO286.out) (by decide)) zapaq.out (by decide)).1 k_ hs_.symm).1.1.2)) (fun hn_ => (Kd.fresh' (Kd.N_lt (by (with_reducible repeat (first | apply Kd.N_alloc | apply Kd.N_drewN | apply Kd.N_drew)); exact HO282.out)) k_ hn_)), Or.elim hk_ (fun hs_ => Or.elim hs_ (fun hs_ => hs_.1.2) (fun hs_ => ((Kd.R_types (Kd.R_apart' (Kd.R_apart' (HO293.out) (Kd.N_typed HO282.out) (by decide)) (Kd.N_typed HO286.out) (by decide)) zapaq.out (by decide)).1 k_ hs_.symm).2)) (fun hn_ => (Kd.freshB (g := zapar) (o := .cells #[.int .i64 a1_0, .bool a1_1, .int .i64 a1_2, .string a1_3, .slice A1_4 l1_4.length c1_4] 24 (0, 0)) (by (with_reducible repeat (first | refine zapad ?_ _ | refine zapaf ?_ | refine zapae ?_ _)); exact zapaq.out) k_ hn_))⟩)) (below_size (by repeat (first | (with_reducible first | exact HB.out | apply zapaj | apply zapah | apply zapai | refine zapag ?_ zapas.out) | exact HB.out))))
     have n4_ := zapao (blk_below (g := zapar) (o := .cells #[.int .i64 a1_0, .bool a1_1, .int .i64 a1_2, .string a1_3, .slice A1_4 l1_4.length c1_4] 24 (0, 0)) (by (with_reducible repeat (first | refine zapad ?_ _ | refine zapaf ?_ | refine zapae ?_ _)); exact zapaq.out) hb)
     have n5_ := zapao (below_step (by repeat (first | (with_reducible first | exact HB.out | apply zapaj | apply zapah | apply zapai | refine zapag ?_ zapas.out) | exact HB.out)) hb)
     clear HO282
     clear HO286
     clear HO293
     clear zapaq
     clear HB
     have HO282 := n0_
     have HO286 := n1_
     have HO293 := n2_
     have HO296 := n3_
     have zapaq := n4_
     have HB := n5_
     clear n0_ n1_ n2_ n3_ n4_ n5_
     (try clear hb)
     (try clear hb2)
     (try clear hk)
     (try clear hi)
     (try clear ho0)
     refine hK.out _ _ ⟨(zapak zapaq.out 0).trans rfl, (zapak zapaq.out 1).trans rfl, (zapak zapaq.out 2).trans rfl, (zapak zapaq.out 3).trans rfl, (zapak zapaq.out 4).trans rfl⟩ (fun hHeld => ?_)
     clear hK K
     refine norm_ (a' := ?_) ?_ ?_
     rotate_left
     ·show Act.put _ (some 26) _ = _
      simp only [Act.put, zapaa, zapab, zapac, i64_w, i32_w]
      rfl
     refine pure_ (i := 5) (N := some 21) (v := ?_) (a' := ?_) zapsq6 rfl rfl (any_of HT_.out (by kernel_rfl)) (fun _ _ _ h => h) (Or.inl ⟨by rfl, ?_⟩) ?_ ?_
     rotate_left
     ·intro w'
      go_simp
      with_reducible rfl
     rotate_left
     ·simp only [Act.put, zapaa, zapab, zapac, i64_w, i32_w]
      rfl
     refine pure_ (i := 6) (N := some 27) (v := ?_) (a' := ?_) zapsq7 rfl rfl (any_of HT_.out (by kernel_rfl)) (fun _ _ _ h => h) (Or.inl ⟨by rfl, ?_⟩) ?_ ?_
     rotate_left
     ·intro w'
      go_simp
      with_reducible rfl
     rotate_left
     ·simp only [Act.put, zapaa, zapab, zapac, i64_w, i32_w]
      rfl
     refine pure_ (i := 7) (N := some 28) (v := ?_) (a' := ?_) zapsq8 rfl rfl (any_of HT_.out (by kernel_rfl)) (fun _ _ _ h => h) (Or.inl ⟨by rfl, ?_⟩) ?_ ?_
     rotate_left
     ·intro w'
      go_simp
      with_reducible rfl
     rotate_left
     ·simp only [Act.put, zapaa, zapab, zapac, i64_w, i32_w]
      rfl
     refine pure_ (i := 8) (N := some 9) (v := ?_) (a' := ?_) zapsq9 rfl rfl (any_of HT_.out (by kernel_rfl)) (fun _ _ _ h => h) (Or.inl ⟨by rfl, ?_⟩) ?_ ?_
     rotate_left
     ·intro w'
      go_simp
      with_reducible rfl
     rotate_left
     ·simp only [Act.put, zapaa, zapab, zapac, i64_w, i32_w]
      rfl
     refine pure_ (i := 9) (N := some 10) (v := ?_) (a' := ?_) zapsq10 rfl rfl (any_of HT_.out (by kernel_rfl)) (fun _ _ _ h => h) (Or.inl ⟨by rfl, ?_⟩) ?_ ?_
     rotate_left
     ·intro w'
      go_simp
      with_reducible rfl
     rotate_left
     ·simp only [Act.put, zapaa, zapab, zapac, i64_w, i32_w]
      rfl
     refine done_ (done_of HT_.out (by kernel_rfl)) ?_
     try go_wp2_with (first | ((with_reducible refine gate_callee (f := 19) rfl ?_); refine goesL_ (some 32) rfl rfl Try.func19 (by kernel_rfl) rfl #[.slice A0 l0.length c0, .int .i64 a2] rfl (by (try simp only [zapal, zapam, zapan]); first | done | rfl) ?_; (with_reducible refine (chain_Drop.calls k _ _ l0 a2 t298 t301 _ ?side1 ?side2 A8.out).mono ?_); (case side1 => repeat (first | exact (Kd.C_below HR0.out HB.out) | (with_reducible refine Kd.C_alloc ?_ _) | (with_reducible refine Kd.C_drewN ?_ _) | (with_reducible refine Kd.C_drew ?_))); (case side2 => exact HC0.out); rintro e w29 ⟨v299, rfl, ho0, hb⟩; refine ⟨_, rfl, ?_⟩; have n0_ := zapao (Kd.N_below (by (with_reducible repeat (first | apply Kd.N_alloc | apply Kd.N_drewN | apply Kd.N_drew)); exact HO282.out) hb); have n1_ := zapao (Kd.N_below (by (with_reducible repeat (first | apply Kd.N_alloc | apply Kd.N_drewN | apply Kd.N_drew)); exact HO286.out) hb); have n2_ := zapao (Kd.R_below (by (with_reducible repeat (first | apply Kd.R_alloc | apply Kd.R_drewN | apply Kd.R_drew)); exact HO293.out) hb); have n3_ := zapao (Kd.N_below (by (with_reducible repeat (first | apply Kd.N_alloc | apply Kd.N_drewN | apply Kd.N_drew)); exact HO296.out) hb); have n4_ := zapao (Kd.V_lower (Kd.V_mono (ok' := fun k_ => some k_ ≠ (v281 : Value).ownBlock ∧ some k_ ≠ (.slice Ao26 t284.length co26 : Value).ownBlock ∧ some k_ ≠ (.slice Ao27 t291.length co27 : Value).ownBlock ∧ some k_ ≠ (v295 : Value).ownBlock ∧ k_ ≠ zapar) ho0 (fun k_ hk_ => ⟨(Kd.fresh' (Kd.N_lt (by (with_reducible repeat (first | apply Kd.N_alloc | apply Kd.N_drewN | apply Kd.N_drew)); exact HO282.out)) k_ hk_), (Kd.fresh' (Kd.N_lt (by (with_reducible repeat (first | apply Kd.N_alloc | apply Kd.N_drewN | apply Kd.N_drew)); exact HO286.out)) k_ hk_), (Kd.fresh' (Kd.R_lt (by (with_reducible repeat (first | apply Kd.R_alloc | apply Kd.R_drewN | apply Kd.R_drew)); exact HO293.out)) k_ hk_), (Kd.fresh' (Kd.N_lt (by (with_reducible repeat (first | apply Kd.N_alloc | apply Kd.N_drewN | apply Kd.N_drew)); exact HO296.out)) k_ hk_), (Kd.freshB (g := zapar) (o := .cells #[.int .i64 a1_0, .bool a1_1, .int .i64 a1_2, .string a1_3, .slice A1_4 l1_4.length c1_4] 24 (0, 0)) (by (with_reducible repeat (first | refine zapad ?_ _ | refine zapaf ?_ | refine zapae ?_ _)); exact zapaq.out) k_ hk_)⟩)) (below_size (by repeat (first | (with_reducible first | exact HB.out | apply zapaj | apply zapah | apply zapai | refine zapag ?_ zapas.out) | exact HB.out)))); have n5_ := zapao (blk_below (g := zapar) (o := .cells #[.int .i64 a1_0, .bool a1_1, .int .i64 a1_2, .string a1_3, .slice A1_4 l1_4.length c1_4] 24 (0, 0)) (by (with_reducible repeat (first | refine zapad ?_ _ | refine zapaf ?_ | refine zapae ?_ _)); exact zapaq.out) hb); have n6_ := zapao (below_step (by repeat (first | (with_reducible first | exact HB.out | apply zapaj | apply zapah | apply zapai | refine zapag ?_ zapas.out) | exact HB.out)) hb); clear HO282; clear HO286; clear HO293; clear HO296; clear zapaq; clear HB; have HO282 := n0_; have HO286 := n1_; have HO293 := n2_; have HO296 := n3_; have HO300 := n4_; have zapaq := n5_; have HB := n6_; clear n0_ n1_ n2_ n3_ n4_ n5_ n6_; (try clear hb); (try clear hk); (try clear hi); (try clear ho0)) | ((with_reducible refine gate_callee (f := 18) rfl ?_); refine goesL_ (some 37) rfl rfl Try.func18 (by kernel_rfl) rfl #[.slice A0 l0.length c0] rfl (by (try simp only [zapal, zapam, zapan]); first | done | rfl) ?_; (with_reducible refine (stowagelaw13_Refs.calls k _ _ l0 t302 _ ?side1 ?side2 A9.out).mono ?_); (case side1 => repeat (first | exact (Kd.C_below HR0.out HB.out) | (with_reducible refine Kd.C_alloc ?_ _) | (with_reducible refine Kd.C_drewN ?_ _) | (with_reducible refine Kd.C_drew ?_))); (case side2 => exact HC0.out); rintro e w30 ⟨v303, rfl, ho0, hb⟩; refine ⟨_, rfl, ?_⟩; have n0_ := zapao (Kd.N_elder' (by (with_reducible repeat (first | apply Kd.N_alloc | apply Kd.N_drewN | apply Kd.N_drew)); exact HO282.out) (by first | exact Kd.N_base ho0 | exact Kd.N_base (Kd.S_N ho0)) hb); have n1_ := zapao (Kd.N_elder' (by (with_reducible repeat (first | apply Kd.N_alloc | apply Kd.N_drewN | apply Kd.N_drew)); exact HO286.out) (by first | exact Kd.N_base ho0 | exact Kd.N_base (Kd.S_N ho0)) hb); have n2_ := zapao (Kd.R_below (by (with_reducible repeat (first | apply Kd.R_alloc | apply Kd.R_drewN | apply Kd.R_drew)); exact HO293.out) hb); have n3_ := zapao (Kd.N_elder' (by (with_reducible repeat (first | apply Kd.N_alloc | apply Kd.N_drewN | apply Kd.N_drew)); exact HO296.out) (by first | exact Kd.N_base ho0 | exact Kd.N_base (Kd.S_N ho0)) hb); have n4_ := zapao (Kd.V_elder' (by (with_reducible repeat (first | apply Kd.V_alloc | apply Kd.V_drewN | apply Kd.V_drew)); exact HO300.out) (by first | exact Kd.N_base ho0 | exact Kd.N_base (Kd.S_N ho0)) hb); have n5_ := zapao (Kd.N_lower (Kd.N_mono (ok' := fun k_ => some k_ ≠ (v281 : Value).ownBlock ∧ some k_ ≠ (.slice Ao26 t284.length co26 : Value).ownBlock ∧ some k_ ≠ (.slice Ao27 t291.length co27 : Value).ownBlock ∧ some k_ ≠ (v295 : Value).ownBlock ∧ k_ ≠ zapar) (Kd.S_N (Kd.S_bound ho0)) (fun k_ hk_ => ⟨(Kd.fresh' (Kd.N_lt (by (with_reducible repeat (first | apply Kd.N_alloc | apply Kd.N_drewN | apply Kd.N_drew)); exact HO282.out)) k_ hk_.2.1), (Kd.fresh' (Kd.N_lt (by (with_reducible repeat (first | apply Kd.N_alloc | apply Kd.N_drewN | apply Kd.N_drew)); exact HO286.out)) k_ hk_.2.1), (Kd.fresh' (Kd.R_lt (by (with_reducible repeat (first | apply Kd.R_alloc | apply Kd.R_drewN | apply Kd.R_drew)); exact HO293.out)) k_ hk_.2.1), (Kd.fresh' (Kd.N_lt (by (with_reducible repeat (first | apply Kd.N_alloc | apply Kd.N_drewN | apply Kd.N_drew)); exact HO296.out)) k_ hk_.2.1), (Kd.freshB (g := zapar) (o := .cells #[.int .i64 a1_0, .bool a1_1, .int .i64 a1_2, .string a1_3, .slice A1_4 l1_4.length c1_4] 24 (0, 0)) (by (with_reducible repeat (first | refine zapad ?_ _ | refine zapaf ?_ | refine zapae ?_ _)); exact zapaq.out) k_ hk_.2.1)⟩)) (below_size (by repeat (first | (with_reducible first | exact HB.out | apply zapaj | apply zapah | apply zapai | refine zapag ?_ zapas.out) | exact HB.out)))); have n6_ := zapao (blk_below (g := zapar) (o := .cells #[.int .i64 a1_0, .bool a1_1, .int .i64 a1_2, .string a1_3, .slice A1_4 l1_4.length c1_4] 24 (0, 0)) (by (with_reducible repeat (first | refine zapad ?_ _ | refine zapaf ?_ | refine zapae ?_ _)); exact zapaq.out) hb); have n7_ := zapao (below_step (by repeat (first | (with_reducible first | exact HB.out | apply zapaj | apply zapah | apply zapai | refine zapag ?_ zapas.out) | exact HB.out)) hb); clear HO282; clear HO286; clear HO293; clear HO296; clear HO300; clear zapaq; clear HB; have HO282 := n0_; have HO286 := n1_; have HO293 := n2_; have HO296 := n3_; have HO300 := n4_; have HO304 := n5_; have zapaq := n6_; have HB := n7_; clear n0_ n1_ n2_ n3_ n4_ n5_ n6_ n7_; (try clear hb); (try clear hk); (try clear hi); (try clear ho0); obtain ⟨Ao31, co31, eo31⟩ := Kd.N_slice HO304.out; subst eo31) | ((with_reducible refine gate_callee (f := 20) rfl ?_); refine goesL_ (some 39) rfl rfl Try.func20 (by kernel_rfl) rfl #[.slice Ao31 t302.length co31, .int .i64 a2] rfl (by (try simp only [zapal, zapam, zapan]); first | done | rfl) ?_; (with_reducible refine (stowageref13_Drop.calls k (fun k_ => (some k_ ≠ (v281 : Value).ownBlock ∧ (some k_ ≠ (.slice Ao26 t284.length co26 : Value).ownBlock ∧ (some k_ ≠ (.slice Ao27 t291.length co27 : Value).ownBlock ∧ (some k_ ≠ (v295 : Value).ownBlock ∧ k_ ≠ zapar))))) _ _ t302 a2 t305 t308 _ ?side1 A10.out).mono ?_); (case side1 => exact Kd.N_V (HO304.out)); rintro e w32 ⟨v306, rfl, ho0, hb⟩; refine ⟨_, rfl, ?_⟩; have n0_ := zapao (Kd.N_elder' (by (with_reducible repeat (first | apply Kd.N_alloc | apply Kd.N_drewN | apply Kd.N_drew)); exact HO282.out) (by first | exact Kd.N_base ho0 | exact Kd.N_base (Kd.S_N ho0)) hb); have n1_ := zapao (Kd.N_elder' (by (with_reducible repeat (first | apply Kd.N_alloc | apply Kd.N_drewN | apply Kd.N_drew)); exact HO286.out) (by first | exact Kd.N_base ho0 | exact Kd.N_base (Kd.S_N ho0)) hb); have n2_ := zapao (Kd.R_below (by (with_reducible repeat (first | apply Kd.R_alloc | apply Kd.R_drewN | apply Kd.R_drew)); exact HO293.out) hb); have n3_ := zapao (Kd.N_elder' (by (with_reducible repeat (first | apply Kd.N_alloc | apply Kd.N_drewN | apply Kd.N_drew)); exact HO296.out) (by first | exact Kd.N_base ho0 | exact Kd.N_base (Kd.S_N ho0)) hb); have n4_ := zapao (Kd.V_elder' (by (with_reducible repeat (first | apply Kd.V_alloc | apply Kd.V_drewN | apply Kd.V_drew)); exact HO300.out) (by first | exact Kd.N_base ho0 | exact Kd.N_base (Kd.S_N ho0)) hb); have n5_ := zapao (Kd.N_elder' (by (with_reducible repeat (first | apply Kd.N_alloc | apply Kd.N_drewN | apply Kd.N_drew)); exact HO304.out) (by first | exact Kd.N_base ho0 | exact Kd.N_base (Kd.S_N ho0)) hb); have n6_ := zapao (Kd.N_lower (Kd.N_mono (ok' := fun k_ => some k_ ≠ (v281 : Value).ownBlock ∧ some k_ ≠ (.slice Ao26 t284.length co26 : Value).ownBlock ∧ some k_ ≠ (.slice Ao27 t291.length co27 : Value).ownBlock ∧ some k_ ≠ (v295 : Value).ownBlock ∧ k_ ≠ zapar) ho0 (fun k_ hk_ => ⟨Or.elim hk_ (fun hs_ => hs_.1) (fun hn_ => (Kd.fresh' (Kd.N_lt (by (with_reducible repeat (first | apply Kd.N_alloc | apply Kd.N_drewN | apply Kd.N_drew)); exact HO282.out)) k_ hn_)), Or.elim hk_ (fun hs_ => hs_.2.1) (fun hn_ => (Kd.fresh' (Kd.N_lt (by (with_reducible repeat (first | apply Kd.N_alloc | apply Kd.N_drewN | apply Kd.N_drew)); exact HO286.out)) k_ hn_)), Or.elim hk_ (fun hs_ => hs_.2.2.1) (fun hn_ => (Kd.fresh' (Kd.R_lt (by (with_reducible repeat (first | apply Kd.R_alloc | apply Kd.R_drewN | apply Kd.R_drew)); exact HO293.out)) k_ hn_)), Or.elim hk_ (fun hs_ => hs_.2.2.2.1) (fun hn_ => (Kd.fresh' (Kd.N_lt (by (with_reducible repeat (first | apply Kd.N_alloc | apply Kd.N_drewN | apply Kd.N_drew)); exact HO296.out)) k_ hn_)), Or.elim hk_ (fun hs_ => hs_.2.2.2.2) (fun hn_ => (Kd.freshB (g := zapar) (o := .cells #[.int .i64 a1_0, .bool a1_1, .int .i64 a1_2, .string a1_3, .slice A1_4 l1_4.length c1_4] 24 (0, 0)) (by (with_reducible repeat (first | refine zapad ?_ _ | refine zapaf ?_ | refine zapae ?_ _)); exact zapaq.out) k_ hn_))⟩)) (below_size (by repeat (first | (with_reducible first | exact HB.out | apply zapaj | apply zapah | apply zapai | refine zapag ?_ zapas.out) | exact HB.out)))); have n7_ := zapao (blk_below (g := zapar) (o := .cells #[.int .i64 a1_0, .bool a1_1, .int .i64 a1_2, .string a1_3, .slice A1_4 l1_4.length c1_4] 24 (0, 0)) (by (with_reducible repeat (first | refine zapad ?_ _ | refine zapaf ?_ | refine zapae ?_ _)); exact zapaq.out) hb); have n8_ := zapao (below_step (by repeat (first | (with_reducible first | exact HB.out | apply zapaj | apply zapah | apply zapai | refine zapag ?_ zapas.out) | exact HB.out)) hb); clear HO282; clear HO286; clear HO293; clear HO296; clear HO300; clear HO304; clear zapaq; clear HB; have HO282 := n0_; have HO286 := n1_; have HO293 := n2_; have HO296 := n3_; have HO300 := n4_; have HO304 := n5_; have HO307 := n6_; have zapaq := n7_; have HB := n8_; clear n0_ n1_ n2_ n3_ n4_ n5_ n6_ n7_ n8_; (try clear hb); (try clear hk); (try clear hi); (try clear ho0)) | ((with_reducible refine gate_callee (f := 12) rfl ?_); refine goesL_ (some 42) rfl rfl Try.func12 (by kernel_rfl) rfl #[] rfl (by (try simp only [zapal, zapam, zapan]); first | done | rfl) ?_; (with_reducible refine (stowagelaw13_awake.calls k  true _ A11.out).mono ?_); rintro e w33 ⟨rfl, hb⟩; refine ⟨_, rfl, ?_⟩; have n0_ := zapao (Kd.N_below (by (with_reducible repeat (first | apply Kd.N_alloc | apply Kd.N_drewN | apply Kd.N_drew)); exact HO282.out) hb); have n1_ := zapao (Kd.N_below (by (with_reducible repeat (first | apply Kd.N_alloc | apply Kd.N_drewN | apply Kd.N_drew)); exact HO286.out) hb); have n2_ := zapao (Kd.R_below (by (with_reducible repeat (first | apply Kd.R_alloc | apply Kd.R_drewN | apply Kd.R_drew)); exact HO293.out) hb); have n3_ := zapao (Kd.N_below (by (with_reducible repeat (first | apply Kd.N_alloc | apply Kd.N_drewN | apply Kd.N_drew)); exact HO296.out) hb); have n4_ := zapao (Kd.V_below (by (with_reducible repeat (first | apply Kd.V_alloc | apply Kd.V_drewN | apply Kd.V_drew)); exact HO300.out) hb); have n5_ := zapao (Kd.N_below (by (with_reducible repeat (first | apply Kd.N_alloc | apply Kd.N_drewN | apply Kd.N_drew)); exact HO304.out) hb); have n6_ := zapao (Kd.N_below (by (with_reducible repeat (first | apply Kd.N_alloc | apply Kd.N_drewN | apply Kd.N_drew)); exact HO307.out) hb); have n7_ := zapao (blk_below (g := zapar) (o := .cells #[.int .i64 a1_0, .bool a1_1, .int .i64 a1_2, .string a1_3, .slice A1_4 l1_4.length c1_4] 24 (0, 0)) (by (with_reducible repeat (first | refine zapad ?_ _ | refine zapaf ?_ | refine zapae ?_ _)); exact zapaq.out) hb); have n8_ := zapao (below_step (by repeat (first | (with_reducible first | exact HB.out | apply zapaj | apply zapah | apply zapai | refine zapag ?_ zapas.out) | exact HB.out)) hb); clear HO282; clear HO286; clear HO293; clear HO296; clear HO300; clear HO304; clear HO307; clear zapaq; clear HB; have HO282 := n0_; have HO286 := n1_; have HO293 := n2_; have HO296 := n3_; have HO300 := n4_; have HO304 := n5_; have HO307 := n6_; have zapaq := n7_; have HB := n8_; clear n0_ n1_ n2_ n3_ n4_ n5_ n6_ n7_ n8_; (try clear hb); (try clear hk); (try clear hi); obtain ⟨Ao34, co34, eo34⟩ := Kd.N_slice HO282.out; subst eo34) | (go_at_call 18; (with_reducible refine (stowagelaw13_Refs.calls k _ _ t280 t310 _ ?side1 ?side2 A13.out).mono ?_); (case side1 => repeat (first | exact (Kd.N_reads' HO282.out).2.2 | (with_reducible refine Kd.C_alloc ?_ _) | (with_reducible refine Kd.C_drewN ?_ _) | (with_reducible refine Kd.C_drew ?_))); (case side2 => exact (Kd.N_reads' HO282.out).2.1); rintro e w35 ⟨v311, rfl, ho0, hb⟩; have n0_ := zapao (Kd.N_elder' (by (with_reducible repeat (first | apply Kd.N_alloc | apply Kd.N_drewN | apply Kd.N_drew)); exact HO282.out) (by first | exact Kd.N_base ho0 | exact Kd.N_base (Kd.S_N ho0)) hb); have n1_ := zapao (Kd.N_elder' (by (with_reducible repeat (first | apply Kd.N_alloc | apply Kd.N_drewN | apply Kd.N_drew)); exact HO286.out) (by first | exact Kd.N_base ho0 | exact Kd.N_base (Kd.S_N ho0)) hb); have n2_ := zapao (Kd.R_below (by (with_reducible repeat (first | apply Kd.R_alloc | apply Kd.R_drewN | apply Kd.R_drew)); exact HO293.out) hb); have n3_ := zapao (Kd.N_elder' (by (with_reducible repeat (first | apply Kd.N_alloc | apply Kd.N_drewN | apply Kd.N_drew)); exact HO296.out) (by first | exact Kd.N_base ho0 | exact Kd.N_base (Kd.S_N ho0)) hb); have n4_ := zapao (Kd.V_elder' (by (with_reducible repeat (first | apply Kd.V_alloc | apply Kd.V_drewN | apply Kd.V_drew)); exact HO300.out) (by first | exact Kd.N_base ho0 | exact Kd.N_base (Kd.S_N ho0)) hb); have n5_ := zapao (Kd.N_elder' (by (with_reducible repeat (first | apply Kd.N_alloc | apply Kd.N_drewN | apply Kd.N_drew)); exact HO304.out) (by first | exact Kd.N_base ho0 | exact Kd.N_base (Kd.S_N ho0)) hb); have n6_ := zapao (Kd.N_elder' (by (with_reducible repeat (first | apply Kd.N_alloc | apply Kd.N_drewN | apply Kd.N_drew)); exact HO307.out) (by first | exact Kd.N_base ho0 | exact Kd.N_base (Kd.S_N ho0)) hb); have n7_ := zapao (Kd.N_lower (Kd.N_mono (ok' := fun k_ => some k_ ≠ (.slice Ao34 t280.length co34 : Value).ownBlock ∧ some k_ ≠ (.slice Ao26 t284.length co26 : Value).ownBlock ∧ some k_ ≠ (.slice Ao27 t291.length co27 : Value).ownBlock ∧ some k_ ≠ (v295 : Value).ownBlock ∧ some k_ ≠ (.slice Ao31 t302.length co31 : Value).ownBlock ∧ some k_ ≠ (v306 : Value).ownBlock ∧ k_ ≠ zapar) (Kd.S_N (Kd.S_bound ho0)) (fun k_ hk_ => ⟨(Kd.fresh' (Kd.N_lt (by (with_reducible repeat (first | apply Kd.N_alloc | apply Kd.N_drewN | apply Kd.N_drew)); exact HO282.out)) k_ hk_.2.1), (Kd.fresh' (Kd.N_lt (by (with_reducible repeat (first | apply Kd.N_alloc | apply Kd.N_drewN | apply Kd.N_drew)); exact HO286.out)) k_ hk_.2.1), (Kd.fresh' (Kd.R_lt (by (with_reducible repeat (first | apply Kd.R_alloc | apply Kd.R_drewN | apply Kd.R_drew)); exact HO293.out)) k_ hk_.2.1), (Kd.fresh' (Kd.N_lt (by (with_reducible repeat (first | apply Kd.N_alloc | apply Kd.N_drewN | apply Kd.N_drew)); exact HO296.out)) k_ hk_.2.1), (Kd.fresh' (Kd.N_lt (by (with_reducible repeat (first | apply Kd.N_alloc | apply Kd.N_drewN | apply Kd.N_drew)); exact HO304.out)) k_ hk_.2.1), (Kd.fresh' (Kd.N_lt (by (with_reducible repeat (first | apply Kd.N_alloc | apply Kd.N_drewN | apply Kd.N_drew)); exact HO307.out)) k_ hk_.2.1), (Kd.freshB (g := zapar) (o := .cells #[.int .i64 a1_0, .bool a1_1, .int .i64 a1_2, .string a1_3, .slice A1_4 l1_4.length c1_4] 24 (0, 0)) (by (with_reducible repeat (first | refine zapad ?_ _ | refine zapaf ?_ | refine zapae ?_ _)); exact zapaq.out) k_ hk_.2.1)⟩)) (below_size (by repeat (first | (with_reducible first | exact HB.out | apply zapaj | apply zapah | apply zapai | refine zapag ?_ zapas.out) | exact HB.out)))); have n8_ := zapao (blk_below (g := zapar) (o := .cells #[.int .i64 a1_0, .bool a1_1, .int .i64 a1_2, .string a1_3, .slice A1_4 l1_4.length c1_4] 24 (0, 0)) (by (with_reducible repeat (first | refine zapad ?_ _ | refine zapaf ?_ | refine zapae ?_ _)); exact zapaq.out) hb); have n9_ := zapao (below_step (by repeat (first | (with_reducible first | exact HB.out | apply zapaj | apply zapah | apply zapai | refine zapag ?_ zapas.out) | exact HB.out)) hb); clear HO282; clear HO286; clear HO293; clear HO296; clear HO300; clear HO304; clear HO307; clear zapaq; clear HB; have HO282 := n0_; have HO286 := n1_; have HO293 := n2_; have HO296 := n3_; have HO300 := n4_; have HO304 := n5_; have HO307 := n6_; have HO312 := n7_; have zapaq := n8_; have HB := n9_; clear n0_ n1_ n2_ n3_ n4_ n5_ n6_ n7_ n8_ n9_; (try clear hb); (try clear hk); (try clear hi); (try clear ho0); obtain ⟨Ao36, co36, eo36⟩ := Kd.N_slice HO312.out; subst eo36; obtain ⟨Ao37, co37, eo37⟩ := Kd.N_slice HO296.out; subst eo37) | (go_at_call 21; (with_reducible refine (stowageref13_Alike.calls k _ _ t310 _ _ t294 true _ ?side1 ?side2 ?side3 ?side4 A14.out).mono ?_); (case side1 => repeat (first | exact (Kd.N_reads' HO312.out).2.2 | (with_reducible refine Kd.C_alloc ?_ _) | (with_reducible refine Kd.C_drewN ?_ _) | (with_reducible refine Kd.C_drew ?_))); (case side2 => exact (Kd.N_reads' HO312.out).2.1); (case side3 => repeat (first | exact (Kd.N_reads' HO296.out).2.2 | (with_reducible refine Kd.C_alloc ?_ _) | (with_reducible refine Kd.C_drewN ?_ _) | (with_reducible refine Kd.C_drew ?_))); (case side4 => exact (Kd.N_reads' HO296.out).2.1); rintro e w38 ⟨rfl, hb⟩; have n0_ := zapao (Kd.N_below (by (with_reducible repeat (first | apply Kd.N_alloc | apply Kd.N_drewN | apply Kd.N_drew)); exact HO282.out) hb); have n1_ := zapao (Kd.N_below (by (with_reducible repeat (first | apply Kd.N_alloc | apply Kd.N_drewN | apply Kd.N_drew)); exact HO286.out) hb); have n2_ := zapao (Kd.R_below (by (with_reducible repeat (first | apply Kd.R_alloc | apply Kd.R_drewN | apply Kd.R_drew)); exact HO293.out) hb); have n3_ := zapao (Kd.N_below (by (with_reducible repeat (first | apply Kd.N_alloc | apply Kd.N_drewN | apply Kd.N_drew)); exact HO296.out) hb); have n4_ := zapao (Kd.V_below (by (with_reducible repeat (first | apply Kd.V_alloc | apply Kd.V_drewN | apply Kd.V_drew)); exact HO300.out) hb); have n5_ := zapao (Kd.N_below (by (with_reducible repeat (first | apply Kd.N_alloc | apply Kd.N_drewN | apply Kd.N_drew)); exact HO304.out) hb); have n6_ := zapao (Kd.N_below (by (with_reducible repeat (first | apply Kd.N_alloc | apply Kd.N_drewN | apply Kd.N_drew)); exact HO307.out) hb); have n7_ := zapao (Kd.N_below (by (with_reducible repeat (first | apply Kd.N_alloc | apply Kd.N_drewN | apply Kd.N_drew)); exact HO312.out) hb); have n8_ := zapao (blk_below (g := zapar) (o := .cells #[.int .i64 a1_0, .bool a1_1, .int .i64 a1_2, .string a1_3, .slice A1_4 l1_4.length c1_4] 24 (0, 0)) (by (with_reducible repeat (first | refine zapad ?_ _ | refine zapaf ?_ | refine zapae ?_ _)); exact zapaq.out) hb); have n9_ := zapao (below_step (by repeat (first | (with_reducible first | exact HB.out | apply zapaj | apply zapah | apply zapai | refine zapag ?_ zapas.out) | exact HB.out)) hb); clear HO282; clear HO286; clear HO293; clear HO296; clear HO300; clear HO304; clear HO307; clear HO312; clear zapaq; clear HB; have HO282 := n0_; have HO286 := n1_; have HO293 := n2_; have HO296 := n3_; have HO300 := n4_; have HO304 := n5_; have HO307 := n6_; have HO312 := n7_; have zapaq := n8_; have HB := n9_; clear n0_ n1_ n2_ n3_ n4_ n5_ n6_ n7_ n8_ n9_; (try clear hb); (try clear hk); (try clear hi); obtain ⟨Ao39, co39, eo39⟩ := Kd.V_slice HO300.out; subst eo39) | (go_at_call 18; (with_reducible refine (stowagelaw13_Refs.calls k _ _ t298 t314 _ ?side1 ?side2 A17.out).mono ?_); (case side1 => repeat (first | exact (Kd.V_reads' HO300.out).2.2 | (with_reducible refine Kd.C_alloc ?_ _) | (with_reducible refine Kd.C_drewN ?_ _) | (with_reducible refine Kd.C_drew ?_))); (case side2 => exact (Kd.V_reads' HO300.out).2.1); rintro e w40 ⟨v315, rfl, ho0, hb⟩; have n0_ := zapao (Kd.N_elder' (by (with_reducible repeat (first | apply Kd.N_alloc | apply Kd.N_drewN | apply Kd.N_drew)); exact HO282.out) (by first | exact Kd.N_base ho0 | exact Kd.N_base (Kd.S_N ho0)) hb); have n1_ := zapao (Kd.N_elder' (by (with_reducible repeat (first | apply Kd.N_alloc | apply Kd.N_drewN | apply Kd.N_drew)); exact HO286.out) (by first | exact Kd.N_base ho0 | exact Kd.N_base (Kd.S_N ho0)) hb); have n2_ := zapao (Kd.R_below (by (with_reducible repeat (first | apply Kd.R_alloc | apply Kd.R_drewN | apply Kd.R_drew)); exact HO293.out) hb); have n3_ := zapao (Kd.N_elder' (by (with_reducible repeat (first | apply Kd.N_alloc | apply Kd.N_drewN | apply Kd.N_drew)); exact HO296.out) (by first | exact Kd.N_base ho0 | exact Kd.N_base (Kd.S_N ho0)) hb); have n4_ := zapao (Kd.V_elder' (by (with_reducible repeat (first | apply Kd.V_alloc | apply Kd.V_drewN | apply Kd.V_drew)); exact HO300.out) (by first | exact Kd.N_base ho0 | exact Kd.N_base (Kd.S_N ho0)) hb); have n5_ := zapao (Kd.N_elder' (by (with_reducible repeat (first | apply Kd.N_alloc | apply Kd.N_drewN | apply Kd.N_drew)); exact HO304.out) (by first | exact Kd.N_base ho0 | exact Kd.N_base (Kd.S_N ho0)) hb); have n6_ := zapao (Kd.N_elder' (by (with_reducible repeat (first | apply Kd.N_alloc | apply Kd.N_drewN | apply Kd.N_drew)); exact HO307.out) (by first | exact Kd.N_base ho0 | exact Kd.N_base (Kd.S_N ho0)) hb); have n7_ := zapao (Kd.N_elder' (by (with_reducible repeat (first | apply Kd.N_alloc | apply Kd.N_drewN | apply Kd.N_drew)); exact HO312.out) (by first | exact Kd.N_base ho0 | exact Kd.N_base (Kd.S_N ho0)) hb); have n8_ := zapao (Kd.N_lower (Kd.N_mono (ok' := fun k_ => some k_ ≠ (.slice Ao34 t280.length co34 : Value).ownBlock ∧ some k_ ≠ (.slice Ao26 t284.length co26 : Value).ownBlock ∧ some k_ ≠ (.slice Ao27 t291.length co27 : Value).ownBlock ∧ some k_ ≠ (.slice Ao37 t294.length co37 : Value).ownBlock ∧ some k_ ≠ (.slice Ao31 t302.length co31 : Value).ownBlock ∧ some k_ ≠ (v306 : Value).ownBlock ∧ some k_ ≠ (.slice Ao36 t310.length co36 : Value).ownBlock ∧ k_ ≠ zapar) (Kd.S_N (Kd.S_bound ho0)) (fun k_ hk_ => ⟨(Kd.fresh' (Kd.N_lt (by (with_reducible repeat (first | apply Kd.N_alloc | apply Kd.N_drewN | apply Kd.N_drew)); exact HO282.out)) k_ hk_.2.1), (Kd.fresh' (Kd.N_lt (by (with_reducible repeat (first | apply Kd.N_alloc | apply Kd.N_drewN | apply Kd.N_drew)); exact HO286.out)) k_ hk_.2.1), (Kd.fresh' (Kd.R_lt (by (with_reducible repeat (first | apply Kd.R_alloc | apply Kd.R_drewN | apply Kd.R_drew)); exact HO293.out)) k_ hk_.2.1), (Kd.fresh' (Kd.N_lt (by (with_reducible repeat (first | apply Kd.N_alloc | apply Kd.N_drewN | apply Kd.N_drew)); exact HO296.out)) k_ hk_.2.1), (Kd.fresh' (Kd.N_lt (by (with_reducible repeat (first | apply Kd.N_alloc | apply Kd.N_drewN | apply Kd.N_drew)); exact HO304.out)) k_ hk_.2.1), (Kd.fresh' (Kd.N_lt (by (with_reducible repeat (first | apply Kd.N_alloc | apply Kd.N_drewN | apply Kd.N_drew)); exact HO307.out)) k_ hk_.2.1), (Kd.fresh' (Kd.N_lt (by (with_reducible repeat (first | apply Kd.N_alloc | apply Kd.N_drewN | apply Kd.N_drew)); exact HO312.out)) k_ hk_.2.1), (Kd.freshB (g := zapar) (o := .cells #[.int .i64 a1_0, .bool a1_1, .int .i64 a1_2, .string a1_3, .slice A1_4 l1_4.length c1_4] 24 (0, 0)) (by (with_reducible repeat (first | refine zapad ?_ _ | refine zapaf ?_ | refine zapae ?_ _)); exact zapaq.out) k_ hk_.2.1)⟩)) (below_size (by repeat (first | (with_reducible first | exact HB.out | apply zapaj | apply zapah | apply zapai | refine zapag ?_ zapas.out) | exact HB.out)))); have n9_ := zapao (blk_below (g := zapar) (o := .cells #[.int .i64 a1_0, .bool a1_1, .int .i64 a1_2, .string a1_3, .slice A1_4 l1_4.length c1_4] 24 (0, 0)) (by (with_reducible repeat (first | refine zapad ?_ _ | refine zapaf ?_ | refine zapae ?_ _)); exact zapaq.out) hb); have n10_ := zapao (below_step (by repeat (first | (with_reducible first | exact HB.out | apply zapaj | apply zapah | apply zapai | refine zapag ?_ zapas.out) | exact HB.out)) hb); clear HO282; clear HO286; clear HO293; clear HO296; clear HO300; clear HO304; clear HO307; clear HO312; clear zapaq; clear HB; have HO282 := n0_; have HO286 := n1_; have HO293 := n2_; have HO296 := n3_; have HO300 := n4_; have HO304 := n5_; have HO307 := n6_; have HO312 := n7_; have HO316 := n8_; have zapaq := n9_; have HB := n10_; clear n0_ n1_ n2_ n3_ n4_ n5_ n6_ n7_ n8_ n9_ n10_; (try clear hb); (try clear hk); (try clear hi); (try clear ho0); obtain ⟨Ao41, co41, eo41⟩ := Kd.N_slice HO316.out; subst eo41; obtain ⟨Ao42, co42, eo42⟩ := Kd.N_slice HO307.out; subst eo42) | (go_at_call 21; (with_reducible refine (stowageref13_Alike.calls k _ _ t314 _ _ t305 true _ ?side1 ?side2 ?side3 ?side4 A18.out).mono ?_); (case side1 => repeat (first | exact (Kd.N_reads' HO316.out).2.2 | (with_reducible refine Kd.C_alloc ?_ _) | (with_reducible refine Kd.C_drewN ?_ _) | (with_reducible refine Kd.C_drew ?_))); (case side2 => exact (Kd.N_reads' HO316.out).2.1); (case side3 => repeat (first | exact (Kd.N_reads' HO307.out).2.2 | (with_reducible refine Kd.C_alloc ?_ _) | (with_reducible refine Kd.C_drewN ?_ _) | (with_reducible refine Kd.C_drew ?_))); (case side4 => exact (Kd.N_reads' HO307.out).2.1); rintro e w43 ⟨rfl, hb⟩; have n0_ := zapao (Kd.N_below (by (with_reducible repeat (first | apply Kd.N_alloc | apply Kd.N_drewN | apply Kd.N_drew)); exact HO282.out) hb); have n1_ := zapao (Kd.N_below (by (with_reducible repeat (first | apply Kd.N_alloc | apply Kd.N_drewN | apply Kd.N_drew)); exact HO286.out) hb); have n2_ := zapao (Kd.R_below (by (with_reducible repeat (first | apply Kd.R_alloc | apply Kd.R_drewN | apply Kd.R_drew)); exact HO293.out) hb); have n3_ := zapao (Kd.N_below (by (with_reducible repeat (first | apply Kd.N_alloc | apply Kd.N_drewN | apply Kd.N_drew)); exact HO296.out) hb); have n4_ := zapao (Kd.V_below (by (with_reducible repeat (first | apply Kd.V_alloc | apply Kd.V_drewN | apply Kd.V_drew)); exact HO300.out) hb); have n5_ := zapao (Kd.N_below (by (with_reducible repeat (first | apply Kd.N_alloc | apply Kd.N_drewN | apply Kd.N_drew)); exact HO304.out) hb); have n6_ := zapao (Kd.N_below (by (with_reducible repeat (first | apply Kd.N_alloc | apply Kd.N_drewN | apply Kd.N_drew)); exact HO307.out) hb); have n7_ := zapao (Kd.N_below (by (with_reducible repeat (first | apply Kd.N_alloc | apply Kd.N_drewN | apply Kd.N_drew)); exact HO312.out) hb); have n8_ := zapao (Kd.N_below (by (with_reducible repeat (first | apply Kd.N_alloc | apply Kd.N_drewN | apply Kd.N_drew)); exact HO316.out) hb); have n9_ := zapao (blk_below (g := zapar) (o := .cells #[.int .i64 a1_0, .bool a1_1, .int .i64 a1_2, .string a1_3, .slice A1_4 l1_4.length c1_4] 24 (0, 0)) (by (with_reducible repeat (first | refine zapad ?_ _ | refine zapaf ?_ | refine zapae ?_ _)); exact zapaq.out) hb); have n10_ := zapao (below_step (by repeat (first | (with_reducible first | exact HB.out | apply zapaj | apply zapah | apply zapai | refine zapag ?_ zapas.out) | exact HB.out)) hb); clear HO282; clear HO286; clear HO293; clear HO296; clear HO300; clear HO304; clear HO307; clear HO312; clear HO316; clear zapaq; clear HB; have HO282 := n0_; have HO286 := n1_; have HO293 := n2_; have HO296 := n3_; have HO300 := n4_; have HO304 := n5_; have HO307 := n6_; have HO312 := n7_; have HO316 := n8_; have zapaq := n9_; have HB := n10_; clear n0_ n1_ n2_ n3_ n4_ n5_ n6_ n7_ n8_ n9_ n10_; (try clear hb); (try clear hk); (try clear hi)))
     go_ret
     exact ⟨by first | rfl | (simp [errW_none, errW_some] <;> rfl) | (simp [*, errW_none, errW_some] <;> rfl), by repeat (first | (with_reducible first | exact HB.out | apply zapaj | apply zapah | apply zapai | refine zapag ?_ zapas.out) | exact HB.out)⟩
    ·replace c19 := Bool.eq_false_iff.mpr c19
     subst c19
     have H1 : (some false) = some r := by rw [if_neg (show ¬ (false = true) by decide)] at H; exact H
     clear H
     have H := H1
     clear H1
     exact absurd ((Option.some.inj H).trans HTR.out) Bool.false_ne_true
   ·rw [if_neg c16] at H
    have c16b0 : (t283 == t297) = false := beq_eq_false_iff_ne.mpr c16
    have c16b1 : (t283 != t297) = true := bne_iff_ne.mpr c16
    exact absurd ((Option.some.inj H).trans HTR.out) Bool.false_ne_true
  ·replace c15 := Bool.eq_false_iff.mpr c15
   subst c15
   have H1 : (some false) = some r := by rw [if_neg (show ¬ (false = true) by decide)] at H; exact H
   clear H
   have H := H1
   clear H1
   exact absurd ((Option.some.inj H).trans HTR.out) Bool.false_ne_true
 ·replace c12 := Bool.eq_false_iff.mpr c12
  subst c12
  have H1 : (some false) = some r := by rw [if_neg (show ¬ (false = true) by decide)] at H; exact H
  clear H
  have H := H1
  clear H1
  exact absurd ((Option.some.inj H).trans HTR.out) Bool.false_ne_true
end Go.Proofs.Ytmpnaaegahjfkaa.Q