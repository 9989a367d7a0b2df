

/- Written by a program of this session (wip/patch_print.py over the kit's print): functions of the given program as plain Lean functions, and that each call does what its function says, under no further conditions. -/
import Derived.Test.YtmpnaaegahjfkaaQx0
import Derived.Test.YtmpnaaegahjfkaaQx2
import Derived.Test.YtmpnaaegahjfkaaQx5
import Derived.Test.YtmpnaaegahjfkaaQx21
import Derived.Test.YtmpnaaegahjfkaaQx22
namespace Go.Proofs.Ytmpnaaegahjfkaa.Q
open Go.RowKit Go.Proofs.YtmpnaaegahjfkaaW.PrintWords Go.Proofs.YtmpnaaegahjfkaaW.PrintLast Go.Proofs.YtmpnaaegahjfkaaW.PrintMore
attribute [local go_sem] max2_int min2_int max_two min_two max_three min_three max_four min_four   -- for this text's walks alone
set_option linter.unusedVariables false
set_option linter.unusedSimpArgs false
attribute [local go_sem] xor_ones_u8 xor_ones_u16 xor_ones_u32 xor_ones_u64 cell_twice frozen_twice
abbrev zaxaa := @List.setIfInBounds_toArray
abbrev zaxab := @List.set_cons_zero
abbrev zaxac := @List.set_cons_succ
abbrev zaxad := @blk_drewN
abbrev zaxae := @blk_alloc
abbrev zaxaf := @blk_drew
abbrev zaxag := @below_set
abbrev zaxah := @pw_below_drewN
abbrev zaxai := @below_drew1
abbrev zaxaj := @below_alloc
abbrev zaxak := @blk_cell
abbrev zaxal := @blk_frozen
abbrev zaxam := @List.map_toArray
abbrev zaxan := @List.map_cons
abbrev zaxao := @List.map_nil
abbrev zaxap := @Aside0.mk
abbrev zaxar := @IsS107.alloc
abbrev zaxas := @IsS107.drew
abbrev zaxat := @IsS107.drewN
abbrev zaxau := @IsS107.far
abbrev zaxav := @IsS107.ge
abbrev zaxaw := @IsS107.set_0
abbrev zaxax := @IsS107.set_1
abbrev zaxay := @IsS107.set_2
abbrev zaxsq0 : Array Bool := #[false, false, false, false, false, false, false, false, false, false, false]
abbrev zaxsq1 : Array Bool := #[true, false, false, false, false, false, false, false, false, false, false]
abbrev zaxsq2 : Array Bool := #[true, false, true, false, false, false, false, false, false, false, false]
abbrev zaxsq3 : Array Bool := #[true, false, true, false, true, false, false, false, false, false, false]
abbrev zaxsq4 : Array Bool := #[true, true, true, false, true, false, false, false, false, false, false]
abbrev zaxsq5 : Array Bool := #[true, true, true, true, true, false, false, false, false, false, false]
abbrev zaxsq6 : Array Bool := #[true, true, true, true, true, true, false, false, false, false, false]
abbrev zaxsq7 : Array Bool := #[true, true, true, true, true, true, true, false, false, false, false]
abbrev zaxsq8 : Array Bool := #[true, true, true, true, true, true, true, true, false, false, false]
abbrev zaxsq9 : Array Bool := #[true, true, true, true, true, true, true, true, true, false, false]
abbrev zaxsq10 : Array Bool := #[true, true, true, true, true, true, true, true, true, true, false]
abbrev zaxsq11 : Array Bool := #[true, true, true, true, true, true, true, true, true, true, true]
/-! ### chain_Decode: function 32 -/
mutual
def chain_Decode.l0 : Nat → List (S24) → Int → Int → ByteArray → Int → Int → Option ((List (S24)) × Int)
 | 0, _, _, _, _, _, _ => none
 | k + 1, x5, x10, x11, zaxbq, zaxbr, zaxbs => if x11 < x10 then ((octet_Reader_Int.f k zaxbq zaxbr zaxbs 1099511627776).bind fun bt508 => ((octet_Reader_Bool.f k bt508.2.1 bt508.2.2.1 bt508.2.2.2).bind fun bt512 => (if bt512.1 = true then (if x5.length < 2199023255552 then (chain_Decode.l0 k (x5 ++ [(⟨bt508.1, bt512.1, 0, (⟨#[]⟩ : ByteArray), ([] : List (S72))⟩ : S24)]) x10 (wrap64 (x11 + 1)) bt512.2.1 bt512.2.2.1 bt512.2.2.2) else (none)) else ((octet_Reader_Int.f k bt512.2.1 bt512.2.2.1 bt512.2.2.2 512).bind fun bt520 => (chain_Decode.l1 k x5 x10 x11 bt520.1 0 bt520.2.1 bt520.2.2.1 bt520.2.2.2 bt508.1 bt512.1 0 (⟨#[]⟩ : ByteArray) ([] : List (S72))))))) else ((octet_Reader_End.f zaxbq zaxbr zaxbs).bind fun bt544 => (if bt544.1 = 0 then ((chain_right.f k x5).bind fun t548 => (if t548 = true then (some (x5, 0)) else (some (([] : List (S24)), 3)))) else (some (([] : List (S24)), 3))))
def chain_Decode.l1 : Nat → List (S24) → Int → Int → Int → Int → ByteArray → Int → Int → Int → Bool → Int → ByteArray → List (S72) → Option ((List (S24)) × Int)
 | 0, _, _, _, _, _, _, _, _, _, _, _, _, _ => none
 | k + 1, x5, x10, x11, x22, x23, zaxbq, zaxbr, zaxbs, zaxby, zaxbz, zaxca, zaxcb, zaxbu => if x23 < x22 then ((octet_Reader_Text.f k zaxbq zaxbr zaxbs 64).bind fun bt524 => ((octet_Reader_Int.f k bt524.2.1 bt524.2.2.1 bt524.2.2.2 4096).bind fun bt528 => (if zaxbu.length < 5864062014805 then (chain_Decode.l1 k x5 x10 x11 x22 (wrap64 (x23 + 1)) bt528.2.1 bt528.2.2.1 bt528.2.2.2 zaxby zaxbz zaxca zaxcb (zaxbu ++ [(⟨bt524.1, bt528.1⟩ : S72)])) else (none)))) else ((octet_Reader_Text.f k zaxbq zaxbr zaxbs 64).bind fun bt535 => ((chain_Pieces.f k zaxbu).bind fun bt539 => (if x5.length < 2199023255552 then (chain_Decode.l0 k (x5 ++ [(⟨zaxby, zaxbz, bt539.1, bt535.1, zaxbu⟩ : S24)]) x10 (wrap64 (x11 + 1)) bt535.2.1 bt535.2.2.1 bt535.2.2.2) else (none))))
end
def chain_Decode.f (k : Nat) (a0 : ByteArray) : Option ((List (S24)) × Int) := (octet_NewReader.f a0).bind fun bt500 => ((octet_Reader_Int.f k bt500.1 bt500.2.1 bt500.2.2 32).bind fun bt504 => (chain_Decode.l0 k ([] : List (S24)) bt504.1 0 bt504.2.1 bt504.2.2.1 bt504.2.2.2))
def chain_Decode.T9 : Bool × List (List Nat × List Nat) := (true, [([], []), ([0], [0]), ([], []), ([2], [2]), ([], []), ([4, 3], [4]), ([3, 5], [3, 5]), ([6], [6]), ([1, 7, 5], [1, 7]), ([0, 1, 2, 3, 4, 5, 6, 7, 8], []), ([9, 8, 8, 0, 1, 2, 3, 4, 5, 6, 7, 8], [8, 9])])
def chain_Decode.B9 : List Nat := [0, 1, 0, 4, 0, 28, 60, 124, 255, 511, 1023]
theorem chain_Decode.tab9 : rtab .any (opsOf Try.f32 9) = chain_Decode.T9 := by kernel_rfl
theorem chain_Decode.bits9 : waitsOk chain_Decode.T9.2 chain_Decode.B9 = true := by kernel_rfl
set_option maxHeartbeats 8000000 in
set_option maxRecDepth 100000 in
theorem chain_Decode.calls (k : Nat) (a0 : ByteArray) (r1 : List (S24)) (r2 : Int) (w : World) (h : chain_Decode.f k a0 = some (r1, r2)) :
  Calls Try.prog 32 #[.string a0] w fun e w' => ∃ v0_ : Value, e = .returned (.tuple #[v0_, .int .i64 r2]) ∧ Kd.S k24 24 w' w.heap.size (fun _ => True) v0_ r1 ∧ Below w.heap.size w w' := by
 have hu24 := Try.underlying24
 have hu72 := Try.underlying72
 have HB := zaxap (Below.refl w.heap.size w)
 have H : ((octet_NewReader.f a0).bind fun bt500 => ((octet_Reader_Int.f k bt500.1 bt500.2.1 bt500.2.2 32).bind fun bt504 => (chain_Decode.l0 k ([] : List (S24)) bt504.1 0 bt504.2.1 bt504.2.2.1 bt504.2.2.2))) = some (r1, r2) := h
 clear h
 replace H := Option.bind_eq_some_iff.mp H
 obtain ⟨⟨t500, t501, t502⟩, A20, H⟩ := H
 replace H : ((octet_Reader_Int.f k t500 t501 t502 32).bind fun bt504 => (chain_Decode.l0 k ([] : List (S24)) bt504.1 0 bt504.2.1 bt504.2.2.1 bt504.2.2.2)) = some (r1, r2) := H
 have A2 := zaxap A20
 clear A20
 replace H := Option.bind_eq_some_iff.mp H
 obtain ⟨⟨t504, t505, t506, t507⟩, A30, H⟩ := H
 replace H : (chain_Decode.l0 k ([] : List (S24)) t504 0 t505 t506 t507) = some (r1, r2) := H
 have A3 := zaxap A30
 clear A30
 have H' := zaxap H
 clear H
 go_enter Try.func32, Try.ntmps32
 go_wp2_with (first | ((with_reducible refine gate_callee (f := 47) rfl ?_); refine goesL_ (some 8) rfl rfl Try.func47 (by kernel_rfl) rfl #[.string a0] rfl (by (try simp only [zaxam, zaxan, zaxao]); first | done | rfl) ?_; (with_reducible refine (octet_NewReader.calls a0 t500 t501 t502 w _ ?side1 A2.out).mono ?_); (case side1 => repeat (first | (with_reducible first | exact HB.out | apply zaxaj | apply zaxah | apply zaxai) | exact HB.out)); rintro e w4 ⟨g503, rfl, hi, hb, hb2⟩; refine ⟨_, rfl, ?_⟩; have n0_ := zaxap (hb); have n1_ := zaxap (hi); clear HB; have HB := n0_; have zaxaz := n1_; clear n0_ n1_; (try clear hb); (try clear hk); (try clear hi)) | ((with_reducible refine gate_callee (f := 48) rfl ?_); refine goesL_ (some 10) rfl rfl Try.func48 (by kernel_rfl) rfl #[.pointer (some ⟨g503, 0, none⟩), .int .i64 32] rfl (by (try simp only [zaxam, zaxan, zaxao]); first | done | rfl) ?_; (with_reducible refine (octet_Reader_Int.calls k g503 t500 t501 t502 32 t504 t505 t506 t507 w _ ?side1 ?side2 A3.out).mono ?_); (case side1 => repeat (first | (with_reducible first | exact zaxaz.out | apply zaxar | apply zaxat | apply zaxas | apply zaxaw | apply zaxax | apply zaxay) | exact zaxaz.out)); (case side2 => repeat (first | (with_reducible first | exact HB.out | apply zaxaj | apply zaxah | apply zaxai | refine zaxag ?_ (zaxav zaxaz.out)) | exact HB.out)); rintro e w5 ⟨rfl, hi, hb, hk⟩; refine ⟨_, rfl, ?_⟩; have n0_ := zaxap (hb); have n1_ := zaxap (hi); clear HB; clear zaxaz; have HB := n0_; have zaxaz := n1_; clear n0_ n1_; (try clear hb); (try clear hk); (try clear hi)))
 go_loopg [5, 11] k (fun kq v5 v11 w' => ∃ (zaxbf : List (S24)) (zaxbj : Int) (zaxbg : ByteArray) (zaxbh : Int) (zaxbi : Int), v11 = .int .i64 zaxbj ∧ Aside0 (chain_Decode.l0 kq zaxbf t504 zaxbj zaxbg zaxbh zaxbi = some (r1, r2)) ∧ Aside0 (kq ≤ k) ∧ Aside0 (Kd.S k24 24 w' w.heap.size (fun _ => True) v5 zaxbf) ∧ Aside0 (IsS107 w w' g503 zaxbg zaxbh zaxbi) ∧ Aside0 (Below w.heap.size w w'))
 case atStart => exact ⟨(([] : List (S24))), (0), (t505), (t506), (t507), (by first | rfl | (simp; done) | (simp [*]; done)), H', ⟨Nat.le_refl _⟩, ⟨by first | exact Kd.S_nil _ _ _ _ _ | exact Kd.N_nil _ _ _ _ _ | exact Kd.V_nil _ _ _ _ _ | exact Kd.Q_nil _ _ _ _ _ | exact Kd.R_nil _ _ _ _ _⟩, ⟨zh4 zaxaz⟩, ⟨zh1 HB ⟨zaxav zaxaz.out⟩⟩⟩
 case round =>
  clear H'
  try clear p2
  try clear c3
  try clear c4
  obtain ⟨zaxbf, zaxbj, zaxbg, zaxbh, zaxbi, rfl, HA, HK1, HO_5, zaxaz, HB⟩ := hrel
  cases gk with
  | zero => exact absurd HA.out (by simp [chain_Decode.l0])
  | succ k1 =>
   have H := HA.out
   clear HA
   simp only [chain_Decode.l0] at H
   by_cases c6 : zaxbj < t504
   ·rw [if_pos c6] at H
    have c6b0 : decide (zaxbj < t504) = true := decide_eq_true c6
    clear c6
    replace H := Option.bind_eq_some_iff.mp H
    obtain ⟨⟨t508, t509, t510, t511⟩, A70, H⟩ := H
    replace H : ((octet_Reader_Bool.f k1 t509 t510 t511).bind fun bt512 => (if bt512.1 = true then (if zaxbf.length < 2199023255552 then (chain_Decode.l0 k1 (zaxbf ++ [(⟨t508, bt512.1, 0, (⟨#[]⟩ : ByteArray), ([] : List (S72))⟩ : S24)]) t504 (wrap64 (zaxbj + 1)) bt512.2.1 bt512.2.2.1 bt512.2.2.2) else (none)) else ((octet_Reader_Int.f k1 bt512.2.1 bt512.2.2.1 bt512.2.2.2 512).bind fun bt520 => (chain_Decode.l1 k1 zaxbf t504 zaxbj bt520.1 0 bt520.2.1 bt520.2.2.1 bt520.2.2.2 t508 bt512.1 0 (⟨#[]⟩ : ByteArray) ([] : List (S72)))))) = some (r1, r2) := H
    have A7 := zaxap A70
    clear A70
    replace H := Option.bind_eq_some_iff.mp H
    obtain ⟨⟨t512, t513, t514, t515⟩, A80, H⟩ := H
    replace H : (if t512 = true then (if zaxbf.length < 2199023255552 then (chain_Decode.l0 k1 (zaxbf ++ [(⟨t508, t512, 0, (⟨#[]⟩ : ByteArray), ([] : List (S72))⟩ : S24)]) t504 (wrap64 (zaxbj + 1)) t513 t514 t515) else (none)) else ((octet_Reader_Int.f k1 t513 t514 t515 512).bind fun bt520 => (chain_Decode.l1 k1 zaxbf t504 zaxbj bt520.1 0 bt520.2.1 bt520.2.2.1 bt520.2.2.2 t508 t512 0 (⟨#[]⟩ : ByteArray) ([] : List (S72))))) = some (r1, r2) := H
    have A8 := zaxap A80
    clear A80
    by_cases c9 : t512 = true
    ·subst c9
     have H1 : (if zaxbf.length < 2199023255552 then (chain_Decode.l0 k1 (zaxbf ++ [(⟨t508, true, 0, (⟨#[]⟩ : ByteArray), ([] : List (S72))⟩ : S24)]) t504 (wrap64 (zaxbj + 1)) t513 t514 t515) else (none)) = some (r1, r2) := by rw [if_pos rfl] at H; exact H
     clear H
     have H := H1
     clear H1
     by_cases c10 : zaxbf.length < 2199023255552
     ·rw [if_pos c10] at H
      have LMc10 := zaxap c10
      clear c10
      obtain ⟨y517, hy517⟩ : ∃ y_ : List (S24), y_ = (zaxbf ++ [(⟨t508, true, 0, (⟨#[]⟩ : ByteArray), ([] : List (S72))⟩ : S24)]) := ⟨_, rfl⟩
      replace H : (chain_Decode.l0 k1 y517 t504 (wrap64 (zaxbj + 1)) t513 t514 t515) = some (r1, r2) := by first | (rw [hy517]; with_reducible exact H) | (have H2_ := (Option.bind_some _ _).symm.trans H; rw [hy517]; with_reducible exact H2_) | (have H2_ := (Option.bind_some _ _).symm.trans H; with_reducible exact H2_) | with_reducible exact H | (rw [hy517]; exact H) | exact H
      have Ny517 := zaxap hy517
      clear hy517
      have H' := zaxap H
      clear H
      go_wp2_with (first | ((with_reducible refine gate_callee (f := 48) rfl ?_); refine goesL_ (some 14) rfl rfl Try.func48 (by kernel_rfl) rfl #[.pointer (some ⟨g503, 0, none⟩), .int .i64 1099511627776] rfl (by (try simp only [zaxam, zaxan, zaxao]); first | done | rfl) ?_; (with_reducible refine (octet_Reader_Int.calls k1 g503 zaxbg zaxbh zaxbi 1099511627776 t508 t509 t510 t511 w _ ?side1 ?side2 A7.out).mono ?_); (case side1 => repeat (first | (with_reducible first | exact zaxaz.out | apply zaxar | apply zaxat | apply zaxas | apply zaxaw | apply zaxax | apply zaxay) | exact zaxaz.out)); (case side2 => repeat (first | (with_reducible first | exact HB.out | apply zaxaj | apply zaxah | apply zaxai | refine zaxag ?_ (zaxav zaxaz.out)) | exact HB.out)); rintro e w11 ⟨rfl, hi, hb, hk⟩; refine ⟨_, rfl, ?_⟩; have n0_ := zaxap (Kd.S_mono (Kd.S_keep (IsS107.apartS (show IsS107 w _ g503 zaxbg zaxbh zaxbi from by repeat (first | (with_reducible first | exact zaxaz.out | apply zaxar | apply zaxat | apply zaxas | apply zaxaw | apply zaxax | apply zaxay) | exact zaxaz.out)) (zsk HO_5) (by decide)) hk (fun _ h => h.2)) (fun _ h => h.1)); have n1_ := zaxap (hb); have n2_ := zaxap (hi); clear HO_5; clear HB; clear zaxaz; have HO_5 := n0_; have HB := n1_; have zaxaz := n2_; clear n0_ n1_ n2_; (try clear hb); (try clear hk); (try clear hi)) | ((with_reducible refine gate_callee (f := 49) rfl ?_); refine goesL_ (some 16) rfl rfl Try.func49 (by kernel_rfl) rfl #[.pointer (some ⟨g503, 0, none⟩)] rfl (by (try simp only [zaxam, zaxan, zaxao]); first | done | rfl) ?_; (with_reducible refine (octet_Reader_Bool.calls k1 g503 t509 t510 t511 true t513 t514 t515 w _ ?side1 ?side2 A8.out).mono ?_); (case side1 => repeat (first | (with_reducible first | exact zaxaz.out | apply zaxar | apply zaxat | apply zaxas | apply zaxaw | apply zaxax | apply zaxay) | exact zaxaz.out)); (case side2 => repeat (first | (with_reducible first | exact HB.out | apply zaxaj | apply zaxah | apply zaxai | refine zaxag ?_ (zaxav zaxaz.out)) | exact HB.out)); rintro e w12 ⟨rfl, hi, hb, hk⟩; refine ⟨_, rfl, ?_⟩; have n0_ := zaxap (Kd.S_mono (Kd.S_keep (IsS107.apartS (show IsS107 w _ g503 t509 t510 t511 from by repeat (first | (with_reducible first | exact zaxaz.out | apply zaxar | apply zaxat | apply zaxas | apply zaxaw | apply zaxax | apply zaxay) | exact zaxaz.out)) (zsk HO_5) (by decide)) hk (fun _ h => h.2)) (fun _ h => h.1)); have n1_ := zaxap (hb); have n2_ := zaxap (hi); clear HO_5; clear HB; clear zaxaz; have HO_5 := n0_; have HB := n1_; have zaxaz := n2_; clear n0_ n1_ n2_; (try clear hb); (try clear hk); (try clear hi)) | ((with_reducible refine gate_dst (N := 6) rfl ?_); refine box_event ?hg (N := 6) ?hd (cs := #[.int .i64 0, .bool false, .int .i64 0, .string (⟨#[]⟩ : ByteArray), .slice none 0 0]) (t := 24) ?hr ?_; (case hd => rfl); (case hg => rfl); (case hr => first | (go_simp; done) | (go_simp; rfl)); intro zaxbb hg w13 hbox hb; have n0_ := zaxap (Kd.S_below (Kd.S_elderB (zsk HO_5) zaxbb (Nat.le_of_eq hg.symm)) hb); have n1_ := zaxap (IsS107.below (zh4 zaxaz) hb); have n2_ := zaxap (below_step (zh1 HB ⟨zaxav zaxaz.out⟩) hb); have n3_ := zaxap (hbox); have n4_ := zns hg (zh1 HB ⟨zaxav zaxaz.out⟩); have n5_ := zns hg (zh1 HB ⟨zaxav zaxaz.out⟩); have n6_ := zaxap ((by rw [hg]; exact Nat.ne_of_lt (IsS107.lt (show IsS107 w _ g503 t513 t514 t515 from by repeat (first | (with_reducible first | exact zaxaz.out | apply zaxar | apply zaxat | apply zaxas | apply zaxaw | apply zaxax | apply zaxay) | exact zaxaz.out))) : g503 ≠ zaxbb)); have n7_ := zaxap ((by rw [hg]; exact Nat.ne_of_gt (IsS107.lt (show IsS107 w _ g503 t513 t514 t515 from by repeat (first | (with_reducible first | exact zaxaz.out | apply zaxar | apply zaxat | apply zaxas | apply zaxaw | apply zaxax | apply zaxay) | exact zaxaz.out))) : zaxbb ≠ g503)); clear HO_5; clear zaxaz; clear HB; have HO_5 := n0_; have zaxaz := n1_; have HB := n2_; have zaxba := n3_; have zaxcw := n4_; have zaxbk := n5_; have zaxbd := n6_; have zaxbo := n7_; clear n0_ n1_ n2_ n3_ n4_ n5_ n6_ n7_; clear hb hbox hg; have hnb14 := zaxbo.out; have hnc14 := zaxbd.out; have zaxcc : w13.cell? ⟨zaxbb, 0, none⟩ = some (.int .i64 0) := (zaxak zaxba.out 0).trans rfl; have zaxcd : w13.cell? ⟨zaxbb, 1, none⟩ = some (.bool false) := (zaxak zaxba.out 1).trans rfl; have zaxce : w13.cell? ⟨zaxbb, 2, none⟩ = some (.int .i64 0) := (zaxak zaxba.out 2).trans rfl; have zaxcf : w13.cell? ⟨zaxbb, 3, none⟩ = some (.string (⟨#[]⟩ : ByteArray)) := (zaxak zaxba.out 3).trans rfl; have zaxcg : w13.cell? ⟨zaxbb, 4, none⟩ = some (.slice none 0 0) := (zaxak zaxba.out 4).trans rfl; have zaxch := zaxal zaxba.out 0; have zaxci := zaxal zaxba.out 1; have zaxcj := zaxal zaxba.out 2; have zaxck := zaxal zaxba.out 3; have zaxcl := zaxal zaxba.out 4) | ((with_reducible refine gate_builtin (b := .append) (xs := #[.tmp 46, .tmp 48]) rfl ?_); at_builtin; refine Kd.S_append k24 (w0 := w) w.heap.size rfl (.tmp 46) (.tmp 48) 39 24 (.agg #[(.int .i64 0), (.bool false), (.int .i64 0), (.string ⟨#[]⟩), (.slice none 0 0)]) 64 rfl Try.underlying39 info24 rfl (by decide) (by omega) u5 zaxbf (⟨t508, true, 0, (⟨#[]⟩ : ByteArray), ([] : List (S72))⟩ : S24) [.int .i64 t508, .bool true, .int .i64 0, .string (⟨#[]⟩ : ByteArray), .slice none 0 0] (fun k_ => k_ ≠ zaxbb) (fun _ => False) rfl (by first | (go_simp; done) | (go_simp; rfl)) ?aP (fun k_ hk_ => hk_.elim) ?aF ?aO ?aB ?aS ?aL ?_; (case aP => exact k24_mkM _ _ _ (⟨t508, true, 0, (⟨#[]⟩ : ByteArray), ([] : List (S72))⟩ : S24) (Kd.R_nil _ _ _ _ _)); (case aB => exact (zh2 HB ⟨zaxav zaxaz.out⟩ zaxbk)); (case aF => exact (fun k_ hk => Kd.freshB (g := zaxbb) (o := .cells #[.int .i64 t508, .bool true, .int .i64 0, .string (⟨#[]⟩ : ByteArray), .slice none 0 0] 24 (0, 0)) (by (with_reducible repeat (first | refine zaxad ?_ _ | refine zaxaf ?_ | refine zaxae ?_ _)); refine blk_put (cs := #[.int .i64 t508, .bool true, .int .i64 0, .string (⟨#[]⟩ : ByteArray), .slice none 0 0]) ?_ 4 _ rfl; (with_reducible repeat (first | refine zaxad ?_ _ | refine zaxaf ?_ | refine zaxae ?_ _)); refine blk_put (cs := #[.int .i64 t508, .bool true, .int .i64 0, .string (⟨#[]⟩ : ByteArray), .slice none 0 0]) ?_ 3 _ rfl; (with_reducible repeat (first | refine zaxad ?_ _ | refine zaxaf ?_ | refine zaxae ?_ _)); refine blk_put (cs := #[.int .i64 t508, .bool true, .int .i64 0, .string (⟨#[]⟩ : ByteArray), .slice none 0 0]) ?_ 2 _ rfl; (with_reducible repeat (first | refine zaxad ?_ _ | refine zaxaf ?_ | refine zaxae ?_ _)); refine blk_put (cs := #[.int .i64 t508, .bool false, .int .i64 0, .string (⟨#[]⟩ : ByteArray), .slice none 0 0]) ?_ 1 _ rfl; (with_reducible repeat (first | refine zaxad ?_ _ | refine zaxaf ?_ | refine zaxae ?_ _)); refine blk_put (cs := #[.int .i64 0, .bool false, .int .i64 0, .string (⟨#[]⟩ : ByteArray), .slice none 0 0]) ?_ 0 _ rfl; exact zbk zaxba) k_ hk)); (case aO => exact (by (with_reducible repeat (first | apply Kd.S_alloc | apply Kd.S_drewN | apply Kd.S_drew)); exact Kd.S_mono (Kd.S_far (p := ⟨zaxbb, 4, none⟩) (Kd.S_far (p := ⟨zaxbb, 3, none⟩) (Kd.S_far (p := ⟨zaxbb, 2, none⟩) (Kd.S_far (p := ⟨zaxbb, 1, none⟩) (Kd.S_far (p := ⟨zaxbb, 0, none⟩) (Kd.S_mono HO_5.out (fun k_ hk => (⟨hk, hk.2⟩ : _ ∧ k_ ≠ zaxbb))) (fun _ hk => hk.2) (.int .i64 t508)) (fun _ hk => hk.2) (.bool true)) (fun _ hk => hk.2) (.int .i64 0)) (fun _ hk => hk.2) (.string (⟨#[]⟩ : ByteArray))) (fun _ hk => hk.2) (.slice none 0 0)) (fun k_ hk => ⟨hk.1.2, fun e_ => e_⟩))); (case aS => exact (below_size (zh2 HB ⟨zaxav zaxaz.out⟩ zaxbk))); (case aL => have := LMc10.out; omega); intro v518 w16 ho hb hg hat; rw [← Ny517.out] at ho; have n0_ := zaxap (IsS107.grown (show IsS107 w _ g503 t513 t514 t515 from by repeat (first | (with_reducible first | exact zaxaz.out | apply zaxar | apply zaxat | apply zaxas | apply zaxaw | apply zaxax | apply zaxay | refine zaxau ?_ zaxbd.out _) | exact zaxaz.out)) hg (IsS107.own_neS zaxaz.out HO_5.out (by decide))); have n1_ := zaxap (blk_grown (g := zaxbb) (o := .cells #[.int .i64 t508, .bool true, .int .i64 0, .string (⟨#[]⟩ : ByteArray), .slice none 0 0] 24 (0, 0)) (by (with_reducible repeat (first | refine zaxad ?_ _ | refine zaxaf ?_ | refine zaxae ?_ _)); refine blk_put (cs := #[.int .i64 t508, .bool true, .int .i64 0, .string (⟨#[]⟩ : ByteArray), .slice none 0 0]) ?_ 4 _ rfl; (with_reducible repeat (first | refine zaxad ?_ _ | refine zaxaf ?_ | refine zaxae ?_ _)); refine blk_put (cs := #[.int .i64 t508, .bool true, .int .i64 0, .string (⟨#[]⟩ : ByteArray), .slice none 0 0]) ?_ 3 _ rfl; (with_reducible repeat (first | refine zaxad ?_ _ | refine zaxaf ?_ | refine zaxae ?_ _)); refine blk_put (cs := #[.int .i64 t508, .bool true, .int .i64 0, .string (⟨#[]⟩ : ByteArray), .slice none 0 0]) ?_ 2 _ rfl; (with_reducible repeat (first | refine zaxad ?_ _ | refine zaxaf ?_ | refine zaxae ?_ _)); refine blk_put (cs := #[.int .i64 t508, .bool false, .int .i64 0, .string (⟨#[]⟩ : ByteArray), .slice none 0 0]) ?_ 1 _ rfl; (with_reducible repeat (first | refine zaxad ?_ _ | refine zaxaf ?_ | refine zaxae ?_ _)); refine blk_put (cs := #[.int .i64 0, .bool false, .int .i64 0, .string (⟨#[]⟩ : ByteArray), .slice none 0 0]) ?_ 0 _ rfl; exact zbk zaxba) hg (Kd.S_away HO_5.out (fun _ hk => hk.2))); have n2_ := zaxap (hb); have n3_ := zaxap (ho); clear zaxaz; clear zaxba; clear HB; clear HO_5; have zaxaz := n0_; have zaxba := n1_; have HB := n2_; have HO519 := n3_; clear n0_ n1_ n2_ n3_; clear ho hb hg hat))
      go_roundg k1
      case measure => have := HK1.out; omega
      case rel => exact ⟨(y517), (wrap64 (zaxbj + 1)), (t513), (t514), (t515), (by first | rfl | (simp; done) | (simp [*]; done)), H', ⟨by have := HK1.out; omega⟩, ⟨by (with_reducible repeat (first | apply Kd.S_alloc | apply Kd.S_drewN | apply Kd.S_drew)); exact Kd.S_mono HO519.out (fun _ hk => trivial)⟩, ⟨by repeat (first | (with_reducible first | exact zaxaz.out | apply zaxar | apply zaxat | apply zaxas | apply zaxaw | apply zaxax | apply zaxay | refine zaxau ?_ zaxbd.out _) | exact zaxaz.out)⟩, ⟨zh2 HB ⟨zaxav zaxaz.out⟩ zaxbk⟩⟩
     ·rw [if_neg c10] at H
      exact absurd H (by simp)
    ·replace c9 := Bool.eq_false_iff.mpr c9
     subst c9
     have H1 : ((octet_Reader_Int.f k1 t513 t514 t515 512).bind fun bt520 => (chain_Decode.l1 k1 zaxbf t504 zaxbj bt520.1 0 bt520.2.1 bt520.2.2.1 bt520.2.2.2 t508 false 0 (⟨#[]⟩ : ByteArray) ([] : List (S72)))) = some (r1, r2) := by rw [if_neg (show ¬ (false = true) by decide)] at H; exact H
     clear H
     have H := H1
     clear H1
     replace H := Option.bind_eq_some_iff.mp H
     obtain ⟨⟨t520, t521, t522, t523⟩, A170, H⟩ := H
     replace H : (chain_Decode.l1 k1 zaxbf t504 zaxbj t520 0 t521 t522 t523 t508 false 0 (⟨#[]⟩ : ByteArray) ([] : List (S72))) = some (r1, r2) := H
     have A17 := zaxap A170
     clear A170
     have H' := zaxap H
     clear H
     go_wp2_with (first | ((with_reducible refine gate_callee (f := 48) rfl ?_); refine goesL_ (some 14) rfl rfl Try.func48 (by kernel_rfl) rfl #[.pointer (some ⟨g503, 0, none⟩), .int .i64 1099511627776] rfl (by (try simp only [zaxam, zaxan, zaxao]); first | done | rfl) ?_; (with_reducible refine (octet_Reader_Int.calls k1 g503 zaxbg zaxbh zaxbi 1099511627776 t508 t509 t510 t511 w _ ?side1 ?side2 A7.out).mono ?_); (case side1 => repeat (first | (with_reducible first | exact zaxaz.out | apply zaxar | apply zaxat | apply zaxas | apply zaxaw | apply zaxax | apply zaxay) | exact zaxaz.out)); (case side2 => repeat (first | (with_reducible first | exact HB.out | apply zaxaj | apply zaxah | apply zaxai | refine zaxag ?_ (zaxav zaxaz.out)) | exact HB.out)); rintro e w18 ⟨rfl, hi, hb, hk⟩; refine ⟨_, rfl, ?_⟩; have n0_ := zaxap (Kd.S_mono (Kd.S_keep (IsS107.apartS (show IsS107 w _ g503 zaxbg zaxbh zaxbi from by repeat (first | (with_reducible first | exact zaxaz.out | apply zaxar | apply zaxat | apply zaxas | apply zaxaw | apply zaxax | apply zaxay) | exact zaxaz.out)) (zsk HO_5) (by decide)) hk (fun _ h => h.2)) (fun _ h => h.1)); have n1_ := zaxap (hb); have n2_ := zaxap (hi); clear HO_5; clear HB; clear zaxaz; have HO_5 := n0_; have HB := n1_; have zaxaz := n2_; clear n0_ n1_ n2_; (try clear hb); (try clear hk); (try clear hi)) | ((with_reducible refine gate_callee (f := 49) rfl ?_); refine goesL_ (some 16) rfl rfl Try.func49 (by kernel_rfl) rfl #[.pointer (some ⟨g503, 0, none⟩)] rfl (by (try simp only [zaxam, zaxan, zaxao]); first | done | rfl) ?_; (with_reducible refine (octet_Reader_Bool.calls k1 g503 t509 t510 t511 false t513 t514 t515 w _ ?side1 ?side2 A8.out).mono ?_); (case side1 => repeat (first | (with_reducible first | exact zaxaz.out | apply zaxar | apply zaxat | apply zaxas | apply zaxaw | apply zaxax | apply zaxay) | exact zaxaz.out)); (case side2 => repeat (first | (with_reducible first | exact HB.out | apply zaxaj | apply zaxah | apply zaxai | refine zaxag ?_ (zaxav zaxaz.out)) | exact HB.out)); rintro e w19 ⟨rfl, hi, hb, hk⟩; refine ⟨_, rfl, ?_⟩; have n0_ := zaxap (Kd.S_mono (Kd.S_keep (IsS107.apartS (show IsS107 w _ g503 t509 t510 t511 from by repeat (first | (with_reducible first | exact zaxaz.out | apply zaxar | apply zaxat | apply zaxas | apply zaxaw | apply zaxax | apply zaxay) | exact zaxaz.out)) (zsk HO_5) (by decide)) hk (fun _ h => h.2)) (fun _ h => h.1)); have n1_ := zaxap (hb); have n2_ := zaxap (hi); clear HO_5; clear HB; clear zaxaz; have HO_5 := n0_; have HB := n1_; have zaxaz := n2_; clear n0_ n1_ n2_; (try clear hb); (try clear hk); (try clear hi)) | ((with_reducible refine gate_dst (N := 6) rfl ?_); refine box_event ?hg (N := 6) ?hd (cs := #[.int .i64 0, .bool false, .int .i64 0, .string (⟨#[]⟩ : ByteArray), .slice none 0 0]) (t := 24) ?hr ?_; (case hd => rfl); (case hg => rfl); (case hr => first | (go_simp; done) | (go_simp; rfl)); intro zaxbb hg w20 hbox hb; have n0_ := zaxap (Kd.S_below (Kd.S_elderB (zsk HO_5) zaxbb (Nat.le_of_eq hg.symm)) hb); have n1_ := zaxap (IsS107.below (zh4 zaxaz) hb); have n2_ := zaxap (below_step (zh1 HB ⟨zaxav zaxaz.out⟩) hb); have n3_ := zaxap (hbox); have n4_ := zns hg (zh1 HB ⟨zaxav zaxaz.out⟩); have n5_ := zns hg (zh1 HB ⟨zaxav zaxaz.out⟩); have n6_ := zaxap ((by rw [hg]; exact Nat.ne_of_lt (IsS107.lt (show IsS107 w _ g503 t513 t514 t515 from by repeat (first | (with_reducible first | exact zaxaz.out | apply zaxar | apply zaxat | apply zaxas | apply zaxaw | apply zaxax | apply zaxay) | exact zaxaz.out))) : g503 ≠ zaxbb)); have n7_ := zaxap ((by rw [hg]; exact Nat.ne_of_gt (IsS107.lt (show IsS107 w _ g503 t513 t514 t515 from by repeat (first | (with_reducible first | exact zaxaz.out | apply zaxar | apply zaxat | apply zaxas | apply zaxaw | apply zaxax | apply zaxay) | exact zaxaz.out))) : zaxbb ≠ g503)); clear HO_5; clear zaxaz; clear HB; have HO_5 := n0_; have zaxaz := n1_; have HB := n2_; have zaxba := n3_; have zaxcw := n4_; have zaxbk := n5_; have zaxbd := n6_; have zaxbo := n7_; clear n0_ n1_ n2_ n3_ n4_ n5_ n6_ n7_; clear hb hbox hg; have hnb21 := zaxbo.out; have hnc21 := zaxbd.out; have zaxcm : w20.cell? ⟨zaxbb, 0, none⟩ = some (.int .i64 0) := (zaxak zaxba.out 0).trans rfl; have zaxcn : w20.cell? ⟨zaxbb, 1, none⟩ = some (.bool false) := (zaxak zaxba.out 1).trans rfl; have zaxco : w20.cell? ⟨zaxbb, 2, none⟩ = some (.int .i64 0) := (zaxak zaxba.out 2).trans rfl; have zaxcp : w20.cell? ⟨zaxbb, 3, none⟩ = some (.string (⟨#[]⟩ : ByteArray)) := (zaxak zaxba.out 3).trans rfl; have zaxcq : w20.cell? ⟨zaxbb, 4, none⟩ = some (.slice none 0 0) := (zaxak zaxba.out 4).trans rfl; have zaxcr := zaxal zaxba.out 0; have zaxcs := zaxal zaxba.out 1; have zaxct := zaxal zaxba.out 2; have zaxcu := zaxal zaxba.out 3; have zaxcv := zaxal zaxba.out 4) | ((with_reducible refine gate_callee (f := 48) rfl ?_); refine goesL_ (some 22) rfl rfl Try.func48 (by kernel_rfl) rfl #[.pointer (some ⟨g503, 0, none⟩), .int .i64 512] rfl (by (try simp only [zaxam, zaxan, zaxao]); first | done | rfl) ?_; (with_reducible refine (octet_Reader_Int.calls k1 g503 t513 t514 t515 512 t520 t521 t522 t523 w _ ?side1 ?side2 A17.out).mono ?_); (case side1 => repeat (first | (with_reducible first | exact zaxaz.out | apply zaxar | apply zaxat | apply zaxas | apply zaxaw | apply zaxax | apply zaxay | refine zaxau ?_ zaxbd.out _) | exact zaxaz.out)); (case side2 => repeat (first | (with_reducible first | exact HB.out | apply zaxaj | apply zaxah | apply zaxai | refine zaxag ?_ (zaxav zaxaz.out) | refine zaxag ?_ zaxbk.out) | exact HB.out)); rintro e w23 ⟨rfl, hi, hb, hk⟩; refine ⟨_, rfl, ?_⟩; have n0_ := zaxap (Kd.S_mono (Kd.S_keep (IsS107.apartS (show IsS107 w _ g503 t513 t514 t515 from by repeat (first | (with_reducible first | exact zaxaz.out | apply zaxar | apply zaxat | apply zaxas | apply zaxaw | apply zaxax | apply zaxay | refine zaxau ?_ zaxbd.out _) | exact zaxaz.out)) (by (with_reducible repeat (first | apply Kd.S_alloc | apply Kd.S_drewN | apply Kd.S_drew)); exact (Kd.S_mono (Kd.S_far (p := ⟨zaxbb, 4, none⟩) (Kd.S_far (p := ⟨zaxbb, 3, none⟩) (Kd.S_far (p := ⟨zaxbb, 2, none⟩) (Kd.S_far (p := ⟨zaxbb, 1, none⟩) (Kd.S_far (p := ⟨zaxbb, 0, none⟩) (Kd.S_mono HO_5.out (fun k_ hk => (⟨hk, hk.2⟩ : _ ∧ k_ ≠ zaxbb))) (fun _ hk => hk.2) (.int .i64 t508)) (fun _ hk => hk.2) (.bool false)) (fun _ hk => hk.2) (.int .i64 0)) (fun _ hk => hk.2) (.string (⟨#[]⟩ : ByteArray))) (fun _ hk => hk.2) (.slice none 0 0)) (fun _ h_ => h_.1))) (by decide)) hk (fun _ h => h.2)) (fun _ h => h.1)); have n1_ := zaxap (KeepBut.blk hk (g' := zaxbb) (o := .cells #[.int .i64 t508, .bool false, .int .i64 0, .string (⟨#[]⟩ : ByteArray), .slice none 0 0] 24 (0, 0)) (by (with_reducible repeat (first | refine zaxad ?_ _ | refine zaxaf ?_ | refine zaxae ?_ _)); refine blk_put (cs := #[.int .i64 t508, .bool false, .int .i64 0, .string (⟨#[]⟩ : ByteArray), .slice none 0 0]) ?_ 4 _ rfl; (with_reducible repeat (first | refine zaxad ?_ _ | refine zaxaf ?_ | refine zaxae ?_ _)); refine blk_put (cs := #[.int .i64 t508, .bool false, .int .i64 0, .string (⟨#[]⟩ : ByteArray), .slice none 0 0]) ?_ 3 _ rfl; (with_reducible repeat (first | refine zaxad ?_ _ | refine zaxaf ?_ | refine zaxae ?_ _)); refine blk_put (cs := #[.int .i64 t508, .bool false, .int .i64 0, .string (⟨#[]⟩ : ByteArray), .slice none 0 0]) ?_ 2 _ rfl; (with_reducible repeat (first | refine zaxad ?_ _ | refine zaxaf ?_ | refine zaxae ?_ _)); refine blk_put (cs := #[.int .i64 t508, .bool false, .int .i64 0, .string (⟨#[]⟩ : ByteArray), .slice none 0 0]) ?_ 1 _ rfl; (with_reducible repeat (first | refine zaxad ?_ _ | refine zaxaf ?_ | refine zaxae ?_ _)); refine blk_put (cs := #[.int .i64 0, .bool false, .int .i64 0, .string (⟨#[]⟩ : ByteArray), .slice none 0 0]) ?_ 0 _ rfl; exact zbk zaxba) zaxbo.out (by simp)); have n2_ := zaxap (hb); have n3_ := zaxap (hi); clear HO_5; clear zaxba; clear HB; clear zaxaz; have HO_5 := n0_; have zaxba := n1_; have HB := n2_; have zaxaz := n3_; clear n0_ n1_ n2_ n3_; (try clear hb); (try clear hk); (try clear hi)))
     go_loopg [23] k1 (fun kq v23 w' => ∃ (zaxbp : Int) (zaxbl : ByteArray) (zaxbm : Int) (zaxbn : Int) (zaxbc : List (S72)) (u517004 : Value), v23 = .int .i64 zaxbp ∧ Aside0 (chain_Decode.l1 kq zaxbf t504 zaxbj t520 zaxbp zaxbl zaxbm zaxbn t508 false 0 (⟨#[]⟩ : ByteArray) zaxbc = some (r1, r2)) ∧ Aside0 (kq ≤ k1) ∧ Aside0 (Kd.S k24 24 w' w.heap.size (fun k_ => some k_ ≠ (u517004 : Value).ownBlock ∧ k_ ≠ zaxbb) u5 zaxbf) ∧ Aside0 (Kd.R k72 72 w' w.heap.size (fun _ => True) u517004 zaxbc) ∧ Aside0 (w'.heap[zaxbb]? = some (.cells #[.int .i64 t508, .bool false, .int .i64 0, .string (⟨#[]⟩ : ByteArray), u517004] 24 (0, 0))) ∧ Aside0 (IsS107 w w' g503 zaxbl zaxbm zaxbn) ∧ Aside0 (Below w.heap.size w w'))
     case atStart => exact ⟨(0), (t521), (t522), (t523), (([] : List (S72))), (.slice none 0 0), (by first | rfl | (simp; done) | (simp [*]; done)), H', ⟨Nat.le_refl _⟩, ⟨by (with_reducible repeat (first | apply Kd.S_alloc | apply Kd.S_drewN | apply Kd.S_drew)); exact Kd.S_mono HO_5.out (fun _ hk => ⟨(by simp [Value.ownBlock]), hk.2⟩)⟩, ⟨by first | exact Kd.R_nil _ _ _ _ _ | exact Kd.N_nil _ _ _ _ _ | exact Kd.V_nil _ _ _ _ _ | exact Kd.Q_nil _ _ _ _ _ | exact Kd.S_nil _ _ _ _ _⟩, ⟨zbk zaxba⟩, ⟨by repeat (first | (with_reducible first | exact zaxaz.out | apply zaxar | apply zaxat | apply zaxas | apply zaxaw | apply zaxax | apply zaxay | refine zaxau ?_ zaxbd.out _) | exact zaxaz.out)⟩, ⟨zh2 HB ⟨zaxav zaxaz.out⟩ zaxbk⟩⟩
     case round =>
      clear H'
      try clear c1
      try clear c2
      try clear p2
      try clear c3
      try clear c4
      try clear c6
      try clear c6b0
      try clear p6
      try clear c9
      try clear c10
      try clear c14
      try clear c21
      try clear zaxcc
      try clear zaxcd
      try clear zaxce
      try clear zaxcf
      try clear zaxcg
      try clear zaxcm
      try clear zaxcn
      try clear zaxco
      try clear zaxcp
      try clear zaxcq
      try clear zaxch
      try clear zaxci
      try clear zaxcj
      try clear zaxck
      try clear zaxcl
      try clear zaxcr
      try clear zaxcs
      try clear zaxct
      try clear zaxcu
      try clear zaxcv
      try clear p2
      obtain ⟨zaxbp, zaxbl, zaxbm, zaxbn, zaxbc, u517004, rfl, HA, HK2, HO_5, HO_517004, zaxba, zaxaz, HB⟩ := hrel
      cases gk with
      | zero => exact absurd HA.out (by simp [chain_Decode.l1])
      | succ k2 =>
       have H := HA.out
       clear HA
       simp only [chain_Decode.l1] at H
       by_cases c24 : zaxbp < t520
       ·rw [if_pos c24] at H
        have c24b0 : decide (zaxbp < t520) = true := decide_eq_true c24
        clear c24
        replace H := Option.bind_eq_some_iff.mp H
        obtain ⟨⟨t524, t525, t526, t527⟩, A250, H⟩ := H
        replace H : ((octet_Reader_Int.f k2 t525 t526 t527 4096).bind fun bt528 => (if zaxbc.length < 5864062014805 then (chain_Decode.l1 k2 zaxbf t504 zaxbj t520 (wrap64 (zaxbp + 1)) bt528.2.1 bt528.2.2.1 bt528.2.2.2 t508 false 0 (⟨#[]⟩ : ByteArray) (zaxbc ++ [(⟨t524, bt528.1⟩ : S72)])) else (none))) = some (r1, r2) := H
        have A25 := zaxap A250
        clear A250
        replace H := Option.bind_eq_some_iff.mp H
        obtain ⟨⟨t528, t529, t530, t531⟩, A260, H⟩ := H
        replace H : (if zaxbc.length < 5864062014805 then (chain_Decode.l1 k2 zaxbf t504 zaxbj t520 (wrap64 (zaxbp + 1)) t529 t530 t531 t508 false 0 (⟨#[]⟩ : ByteArray) (zaxbc ++ [(⟨t524, t528⟩ : S72)])) else (none)) = some (r1, r2) := H
        have A26 := zaxap A260
        clear A260
        by_cases c27 : zaxbc.length < 5864062014805
        ·rw [if_pos c27] at H
         have LMc27 := zaxap c27
         clear c27
         obtain ⟨y532, hy532⟩ : ∃ y_ : List (S72), y_ = (zaxbc ++ [(⟨t524, t528⟩ : S72)]) := ⟨_, rfl⟩
         replace H : (chain_Decode.l1 k2 zaxbf t504 zaxbj t520 (wrap64 (zaxbp + 1)) t529 t530 t531 t508 false 0 (⟨#[]⟩ : ByteArray) y532) = some (r1, r2) := by first | (rw [hy532]; with_reducible exact H) | (have H2_ := (Option.bind_some _ _).symm.trans H; rw [hy532]; with_reducible exact H2_) | (have H2_ := (Option.bind_some _ _).symm.trans H; with_reducible exact H2_) | with_reducible exact H | (rw [hy532]; exact H) | exact H
         have Ny532 := zaxap hy532
         clear hy532
         have H' := zaxap H
         clear H
         try go_wp2
         have n0_ := zaxap (Kd.S_drew HO_5.out)
         have n1_ := zaxap (Kd.R_drew HO_517004.out)
         have n2_ := zaxap (zaxaf zaxba.out)
         have n3_ := zaxap (zaxas zaxaz.out)
         have n4_ := zaxap (zaxai HB.out)
         clear HO_5
         clear HO_517004
         clear zaxba
         clear zaxaz
         clear HB
         have HO_5 := n0_
         have HO_517004 := n1_
         have zaxba := n2_
         have zaxaz := n3_
         have HB := n4_
         clear n0_ n1_ n2_ n3_ n4_
         refine start_ (n := 11) (S := fun w' => w'.cell? ⟨zaxbb, 0, none⟩ = some (.int .i64 t508) ∧ w'.cell? ⟨zaxbb, 1, none⟩ = some (.bool false) ∧ w'.cell? ⟨zaxbb, 2, none⟩ = some (.int .i64 0) ∧ w'.cell? ⟨zaxbb, 3, none⟩ = some (.string (⟨#[]⟩ : ByteArray)) ∧ w'.cell? ⟨zaxbb, 4, none⟩ = some (u517004)) (ds := [10]) zaxsq0 (by kernel_rfl) rfl rfl ⟨(zaxak zaxba.out 0).trans rfl, (zaxak zaxba.out 1).trans rfl, (zaxak zaxba.out 2).trans rfl, (zaxak zaxba.out 3).trans rfl, (zaxak zaxba.out 4).trans rfl⟩ (fun hHeld => ?_); refine with_tabW chain_Decode.tab9 chain_Decode.bits9 (fun HT_ HW_ => ?_)
         generalize wr.drew = w28 at HO_5 HO_517004 zaxba zaxaz HB hHeld ⊢
         refine pure_ (i := 0) (N := some 25) (v := ?_) (a' := ?_) zaxsq1 rfl rfl (any_of HT_.out (by kernel_rfl)) (fun _ _ _ h => h) (Or.inl ⟨by rfl, ?_⟩) ?_ ?_
         rotate_left
         ·intro w'
          go_simp
          with_reducible rfl
         rotate_left
         ·simp only [Act.put, zaxaa, zaxab, zaxac, i64_w, i32_w]
          rfl
         refine pure_ (i := 2) (N := some 27) (v := ?_) (a' := ?_) zaxsq2 rfl rfl (any_of HT_.out (by kernel_rfl)) (fun _ _ _ h => h) (Or.inl ⟨by rfl, ?_⟩) ?_ ?_
         rotate_left
         ·intro w'
          go_simp
          with_reducible rfl
         rotate_left
         ·simp only [Act.put, zaxaa, zaxab, zaxac, i64_w, i32_w]
          rfl
         refine pure_ (i := 4) (N := some 29) (v := ?_) (a' := ?_) zaxsq3 rfl rfl (any_of HT_.out (by kernel_rfl)) (fun _ _ _ h => h) (Or.inl ⟨by rfl, ?_⟩) ?_ ?_
         rotate_left
         ·intro w'
          go_simp
          with_reducible rfl
         rotate_left
         ·simp only [Act.put, zaxaa, zaxab, zaxac, i64_w, i32_w]
          rfl
         refine take_ (i := 1) (N := some 26) (v := ?_) (a' := ?_) zaxsq4 rfl rfl (take_ofW HT_.out HW_.out (by kernel_rfl)) (fun _ _ _ h => h) (Or.inl ⟨by rfl, ?_⟩) hHeld ?_ ?_
         rotate_left
         ·rintro w' ⟨s0, s1, s2, s3, s4⟩
          go_simp
          with_reducible rfl
         rotate_left
         ·simp only [Act.put, zaxaa, zaxab, zaxac, i64_w, i32_w]
          rfl
         refine one_ (i := 3) (N := some 28) zaxsq5 rfl rfl (one_of HT_.out (by kernel_rfl)) (by decide) (fun K hK => ?_)
         refine goes_ Try.func50 (by kernel_rfl) rfl #[.pointer (some ⟨g503, 0, none⟩), .int .i64 64] (by rfl) rfl rfl (by (try simp only [zaxam, zaxan, zaxao]); first | done | rfl) ?_
         with_reducible refine (octet_Reader_Text.calls k2 g503 zaxbl zaxbm zaxbn 64 t524 t525 t526 t527 w _ ?side1 ?side2 A25.out).mono ?_
         (case side1 => repeat (first | (with_reducible first | exact zaxaz.out | apply zaxar | apply zaxat | apply zaxas | apply zaxaw | apply zaxax | apply zaxay | refine zaxau ?_ zaxbd.out _) | exact zaxaz.out))
         (case side2 => repeat (first | (with_reducible first | exact HB.out | apply zaxaj | apply zaxah | apply zaxai | refine zaxag ?_ (zaxav zaxaz.out) | refine zaxag ?_ zaxbk.out) | exact HB.out))
         rintro e w29 ⟨rfl, hi, hb, hk⟩
         refine ⟨_, rfl, ?_⟩
         have n0_ := zaxap (Kd.S_mono (Kd.S_keep (IsS107.apartS (show IsS107 w _ g503 zaxbl zaxbm zaxbn from by repeat (first | (with_reducible first | exact zaxaz.out | apply zaxar | apply zaxat | apply zaxas | apply zaxaw | apply zaxax | apply zaxay | refine zaxau ?_ zaxbd.out _) | exact zaxaz.out)) (zsk HO_5) (by decide)) hk (fun _ h => h.2)) (fun _ h => h.1))
         have n1_ := zaxap (Kd.R_mono (Kd.R_keep (IsS107.apart (show IsS107 w _ g503 zaxbl zaxbm zaxbn from by repeat (first | (with_reducible first | exact zaxaz.out | apply zaxar | apply zaxat | apply zaxas | apply zaxaw | apply zaxax | apply zaxay | refine zaxau ?_ zaxbd.out _) | exact zaxaz.out)) (zrk HO_517004) (by decide)) hk (fun _ h => h.2)) (fun _ h => h.1))
         have n2_ := zaxap (KeepBut.blk hk (g' := zaxbb) (o := .cells #[.int .i64 t508, .bool false, .int .i64 0, .string (⟨#[]⟩ : ByteArray), u517004] 24 (0, 0)) (zbk zaxba) zaxbo.out (by simp))
         have n3_ := zaxap (hb)
         have n4_ := zaxap (hi)
         clear HO_5
         clear HO_517004
         clear zaxba
         clear HB
         clear zaxaz
         have HO_5 := n0_
         have HO_517004 := n1_
         have zaxba := n2_
         have HB := n3_
         have zaxaz := n4_
         clear n0_ n1_ n2_ n3_ n4_
         (try clear hb)
         (try clear hb2)
         (try clear hk)
         (try clear hi)
         refine hK.out _ _ ⟨(zaxak zaxba.out 0).trans rfl, (zaxak zaxba.out 1).trans rfl, (zaxak zaxba.out 2).trans rfl, (zaxak zaxba.out 3).trans rfl, (zaxak zaxba.out 4).trans rfl⟩ (fun hHeld => ?_)
         clear hK K
         refine norm_ (a' := ?_) ?_ ?_
         rotate_left
         ·show Act.put _ (some 28) _ = _
          simp only [Act.put, zaxaa, zaxab, zaxac, i64_w, i32_w]
          rfl
         refine one_ (i := 5) (N := some 30) zaxsq6 rfl rfl (one_of HT_.out (by kernel_rfl)) (by decide) (fun K hK => ?_)
         refine goes_ Try.func48 (by kernel_rfl) rfl #[.pointer (some ⟨g503, 0, none⟩), .int .i64 4096] (by rfl) rfl rfl (by (try simp only [zaxam, zaxan, zaxao]); first | done | rfl) ?_
         with_reducible refine (octet_Reader_Int.calls k2 g503 t525 t526 t527 4096 t528 t529 t530 t531 w _ ?side1 ?side2 A26.out).mono ?_
         (case side1 => repeat (first | (with_reducible first | exact zaxaz.out | apply zaxar | apply zaxat | apply zaxas | apply zaxaw | apply zaxax | apply zaxay | refine zaxau ?_ zaxbd.out _) | exact zaxaz.out))
         (case side2 => repeat (first | (with_reducible first | exact HB.out | apply zaxaj | apply zaxah | apply zaxai | refine zaxag ?_ (zaxav zaxaz.out) | refine zaxag ?_ zaxbk.out) | exact HB.out))
         rintro e w30 ⟨rfl, hi, hb, hk⟩
         refine ⟨_, rfl, ?_⟩
         have n0_ := zaxap (Kd.S_mono (Kd.S_keep (IsS107.apartS (show IsS107 w _ g503 t525 t526 t527 from by repeat (first | (with_reducible first | exact zaxaz.out | apply zaxar | apply zaxat | apply zaxas | apply zaxaw | apply zaxax | apply zaxay | refine zaxau ?_ zaxbd.out _) | exact zaxaz.out)) (zsk HO_5) (by decide)) hk (fun _ h => h.2)) (fun _ h => h.1))
         have n1_ := zaxap (Kd.R_mono (Kd.R_keep (IsS107.apart (show IsS107 w _ g503 t525 t526 t527 from by repeat (first | (with_reducible first | exact zaxaz.out | apply zaxar | apply zaxat | apply zaxas | apply zaxaw | apply zaxax | apply zaxay | refine zaxau ?_ zaxbd.out _) | exact zaxaz.out)) (zrk HO_517004) (by decide)) hk (fun _ h => h.2)) (fun _ h => h.1))
         have n2_ := zaxap (KeepBut.blk hk (g' := zaxbb) (o := .cells #[.int .i64 t508, .bool false, .int .i64 0, .string (⟨#[]⟩ : ByteArray), u517004] 24 (0, 0)) (zbk zaxba) zaxbo.out (by simp))
         have n3_ := zaxap (hb)
         have n4_ := zaxap (hi)
         clear HO_5
         clear HO_517004
         clear zaxba
         clear HB
         clear zaxaz
         have HO_5 := n0_
         have HO_517004 := n1_
         have zaxba := n2_
         have HB := n3_
         have zaxaz := n4_
         clear n0_ n1_ n2_ n3_ n4_
         (try clear hb)
         (try clear hb2)
         (try clear hk)
         (try clear hi)
         refine hK.out _ _ ⟨(zaxak zaxba.out 0).trans rfl, (zaxak zaxba.out 1).trans rfl, (zaxak zaxba.out 2).trans rfl, (zaxak zaxba.out 3).trans rfl, (zaxak zaxba.out 4).trans rfl⟩ (fun hHeld => ?_)
         clear hK K
         refine norm_ (a' := ?_) ?_ ?_
         rotate_left
         ·show Act.put _ (some 30) _ = _
          simp only [Act.put, zaxaa, zaxab, zaxac, i64_w, i32_w]
          rfl
         refine pure_ (i := 6) (N := some 31) (v := ?_) (a' := ?_) zaxsq7 rfl rfl (any_of HT_.out (by kernel_rfl)) (fun _ _ _ h => h) (Or.inl ⟨by rfl, ?_⟩) ?_ ?_
         rotate_left
         ·intro w'
          go_simp
          with_reducible rfl
         rotate_left
         ·simp only [Act.put, zaxaa, zaxab, zaxac, i64_w, i32_w]
          rfl
         refine one_ (i := 7) (N := some 32) zaxsq8 rfl rfl (one_of HT_.out (by kernel_rfl)) (by decide) (fun K hK => ?_)
         refine value_ (w1 := ?_) (v := ?_) (by rfl) rfl ?_ ?_
         rotate_left 2
         ·go_simp
          constructor
          ·rfl
          ·rfl
         refine hK.out _ _ ⟨(zaxak (zaxae zaxba.out _) 0).trans rfl, (zaxak (zaxae zaxba.out _) 1).trans rfl, (zaxak (zaxae zaxba.out _) 2).trans rfl, (zaxak (zaxae zaxba.out _) 3).trans rfl, (zaxak (zaxae zaxba.out _) 4).trans rfl⟩ (fun hHeld => ?_)
         clear hK K
         refine norm_ (a' := ?_) ?_ ?_
         rotate_left
         ·show Act.put _ (some 32) _ = _
          simp only [Act.put, zaxaa, zaxab, zaxac, i64_w, i32_w]
          rfl
         refine one_ (i := 8) (N := some 33) zaxsq9 rfl rfl (one_of HT_.out (by kernel_rfl)) (by decide) (fun K hK => ?_)
         refine Kd.R_append_step k72 (w0 := w) w.heap.size (by rfl) (.tmp 26) (.tmp 32) 22 72 (.agg #[(.string ⟨#[]⟩), (.int .i64 0)]) 24 rfl Try.underlying22 info72 rfl (by decide) (by omega) u517004 zaxbc (⟨t524, t528⟩ : S72) [.string t524, .int .i64 t528] (fun _ => True) (fun _ => False) rfl rfl ?aP (fun _ hk => hk.elim) ?aF ?aO ?aB ?aS ?aL ?_
         (case aP => exact k72_mkM _ _ _ (⟨t524, t528⟩ : S72))
         (case aB => exact (zh2 HB ⟨zaxav zaxaz.out⟩ zaxbk))
         (case aF => exact (fun _ _ => trivial))
         (case aO => exact (zrk HO_517004))
         (case aS => exact (below_size (zh2 HB ⟨zaxav zaxaz.out⟩ zaxbk)))
         (case aL => have := LMc27.out; omega)
         intro v533 w31 ho hb hg hat
         rw [← Ny532.out] at ho
         have n0_ := zaxap (Kd.S_after (ok := (fun k_ => k_ ≠ zaxbb)) (by (with_reducible repeat (first | apply Kd.S_alloc | apply Kd.S_drewN | apply Kd.S_drew)); exact Kd.S_mono HO_5.out (fun _ hk => ⟨hk.2, hk.1⟩)) hg hat)
         have n1_ := zaxap (blk_grown (g := zaxbb) (o := .cells #[.int .i64 t508, .bool false, .int .i64 0, .string (⟨#[]⟩ : ByteArray), u517004] 24 (0, 0)) (zbk zaxba) hg (Kd.R_ne HO_517004.out zaxba.out (by decide)))
         have n2_ := zaxap (IsS107.grown (by repeat (first | (with_reducible first | exact zaxaz.out | apply zaxar | apply zaxat | apply zaxas | apply zaxaw | apply zaxax | apply zaxay | refine zaxau ?_ zaxbd.out _) | exact zaxaz.out)) hg (IsS107.own_ne zaxaz.out HO_517004.out (by decide)))
         have n3_ := zaxap (hb)
         have n4_ := zaxap (ho)
         clear HO_5
         clear zaxba
         clear zaxaz
         clear HB
         clear HO_517004
         have HO_5 := n0_
         have zaxba := n1_
         have zaxaz := n2_
         have HB := n3_
         have HO534 := n4_
         clear n0_ n1_ n2_ n3_ n4_
         clear ho hb hg hat
         obtain ⟨Ao32, co32, eo32⟩ := Kd.R_slice HO534.out
         (first | subst eo32 | (injection eo32 with f1_ f2_ f3_; have f4_ := f1_.symm; have f5_ := f3_.symm; clear f1_ f2_ f3_; subst f4_; subst f5_))
         refine hK.out _ _ ⟨(zaxak zaxba.out 0).trans rfl, (zaxak zaxba.out 1).trans rfl, (zaxak zaxba.out 2).trans rfl, (zaxak zaxba.out 3).trans rfl, (zaxak zaxba.out 4).trans rfl⟩ (fun hHeld => ?_)
         clear hK K
         refine norm_ (a' := ?_) ?_ ?_
         rotate_left
         ·show Act.put _ (some 33) _ = _
          simp only [Act.put, zaxaa, zaxab, zaxac, i64_w, i32_w]
          rfl
         refine pure_ (i := 9) (N := some 34) (v := ?_) (a' := ?_) zaxsq10 rfl rfl (any_of HT_.out (by kernel_rfl)) (fun _ _ _ h => h) (Or.inl ⟨by rfl, ?_⟩) ?_ ?_
         rotate_left
         ·intro w'
          go_simp
          with_reducible rfl
         rotate_left
         ·simp only [Act.put, zaxaa, zaxab, zaxac, i64_w, i32_w]
          rfl
         refine last_ (i := 10) (N := none) zaxsq11 rfl rfl (one_of HT_.out (by kernel_rfl)) (by decide) (fun K hK => ?_)
         have hs33 : w31.cell? ⟨zaxbb, 4, none⟩ = some (u517004) := (zaxak zaxba.out 4).trans rfl
         have hfs33 := zaxal zaxba.out 4
         refine skip_ (w1 := ?_) (by rfl) rfl ?_ ?_
         rotate_left
         ·go_simp
          rfl
         refine hK.out _ _ ?_
         clear hK K
         refine done_ (done_of HT_.out (by kernel_rfl)) ?_
         try go_wp2
         go_roundg k2
         case measure => have := HK1.out; have := HK2.out; omega
         case rel => exact ⟨(wrap64 (zaxbp + 1)), (t529), (t530), (t531), (y532), (.slice Ao32 y532.length co32), (by first | rfl | (simp; done) | (simp [*]; done)), H', ⟨by have := HK1.out; have := HK2.out; omega⟩, ⟨by (with_reducible repeat (first | apply Kd.S_alloc | apply Kd.S_drewN | apply Kd.S_drew)); exact Kd.S_mono (Kd.S_far (p := ⟨zaxbb, 4, none⟩) (Kd.S_mono HO_5.out (fun k_ hk => (⟨hk, hk.1⟩ : _ ∧ k_ ≠ zaxbb))) (fun _ hk => hk.2) (.slice Ao32 y532.length co32)) (fun _ hk => ⟨hk.1.2, hk.1.1⟩)⟩, ⟨by (with_reducible repeat (first | apply Kd.R_alloc | apply Kd.R_drewN | apply Kd.R_drew)); exact Kd.R_mono (Kd.R_far (p := ⟨zaxbb, 4, none⟩) (Kd.R_types HO534.out zaxba.out (by decide)) (fun _ hk => hk.2) (.slice Ao32 y532.length co32)) (fun _ hk => trivial)⟩, ⟨by (with_reducible repeat (first | refine zaxad ?_ _ | refine zaxaf ?_ | refine zaxae ?_ _)); refine blk_put (cs := #[.int .i64 t508, .bool false, .int .i64 0, .string (⟨#[]⟩ : ByteArray), u517004]) ?_ 4 _ rfl; exact zbk zaxba⟩, ⟨by repeat (first | (with_reducible first | exact zaxaz.out | apply zaxar | apply zaxat | apply zaxas | apply zaxaw | apply zaxax | apply zaxay | refine zaxau ?_ zaxbd.out _) | exact zaxaz.out)⟩, ⟨zh2 HB ⟨zaxav zaxaz.out⟩ zaxbk⟩⟩
        ·rw [if_neg c27] at H
         exact absurd H (by simp)
       ·rw [if_neg c24] at H
        have c24b0 : decide (zaxbp < t520) = false := decide_eq_false c24
        clear c24
        replace H := Option.bind_eq_some_iff.mp H
        obtain ⟨⟨t535, t536, t537, t538⟩, A340, H⟩ := H
        replace H : ((chain_Pieces.f k2 zaxbc).bind fun bt539 => (if zaxbf.length < 2199023255552 then (chain_Decode.l0 k2 (zaxbf ++ [(⟨t508, false, bt539.1, t535, zaxbc⟩ : S24)]) t504 (wrap64 (zaxbj + 1)) t536 t537 t538) else (none))) = some (r1, r2) := H
        have A34 := zaxap A340
        clear A340
        replace H := Option.bind_eq_some_iff.mp H
        obtain ⟨⟨t539, t540⟩, A350, H⟩ := H
        replace H : (if zaxbf.length < 2199023255552 then (chain_Decode.l0 k2 (zaxbf ++ [(⟨t508, false, t539, t535, zaxbc⟩ : S24)]) t504 (wrap64 (zaxbj + 1)) t536 t537 t538) else (none)) = some (r1, r2) := H
        have A35 := zaxap A350
        clear A350
        by_cases c36 : zaxbf.length < 2199023255552
        ·rw [if_pos c36] at H
         have LMc36 := zaxap c36
         clear c36
         obtain ⟨y541, hy541⟩ : ∃ y_ : List (S24), y_ = (zaxbf ++ [(⟨t508, false, t539, t535, zaxbc⟩ : S24)]) := ⟨_, rfl⟩
         replace H : (chain_Decode.l0 k2 y541 t504 (wrap64 (zaxbj + 1)) t536 t537 t538) = some (r1, r2) := by first | (rw [hy541]; with_reducible exact H) | (have H2_ := (Option.bind_some _ _).symm.trans H; rw [hy541]; with_reducible exact H2_) | (have H2_ := (Option.bind_some _ _).symm.trans H; with_reducible exact H2_) | with_reducible exact H | (rw [hy541]; exact H) | exact H
         have Ny541 := zaxap hy541
         clear hy541
         have H' := zaxap H
         clear H
         go_wp2_with (first | ((with_reducible refine gate_callee (f := 50) rfl ?_); refine goesL_ (some 37) rfl rfl Try.func50 (by kernel_rfl) rfl #[.pointer (some ⟨g503, 0, none⟩), .int .i64 64] rfl (by (try simp only [zaxam, zaxan, zaxao]); first | done | rfl) ?_; (with_reducible refine (octet_Reader_Text.calls k2 g503 zaxbl zaxbm zaxbn 64 t535 t536 t537 t538 w _ ?side1 ?side2 A34.out).mono ?_); (case side1 => repeat (first | (with_reducible first | exact zaxaz.out | apply zaxar | apply zaxat | apply zaxas | apply zaxaw | apply zaxax | apply zaxay | refine zaxau ?_ zaxbd.out _) | exact zaxaz.out)); (case side2 => repeat (first | (with_reducible first | exact HB.out | apply zaxaj | apply zaxah | apply zaxai | refine zaxag ?_ (zaxav zaxaz.out) | refine zaxag ?_ zaxbk.out) | exact HB.out)); rintro e w37 ⟨rfl, hi, hb, hk⟩; refine ⟨_, rfl, ?_⟩; have n0_ := zaxap (Kd.S_mono (Kd.S_keep (IsS107.apartS (show IsS107 w _ g503 zaxbl zaxbm zaxbn from by repeat (first | (with_reducible first | exact zaxaz.out | apply zaxar | apply zaxat | apply zaxas | apply zaxaw | apply zaxax | apply zaxay | refine zaxau ?_ zaxbd.out _) | exact zaxaz.out)) (zsk HO_5) (by decide)) hk (fun _ h => h.2)) (fun _ h => h.1)); have n1_ := zaxap (Kd.R_mono (Kd.R_keep (IsS107.apart (show IsS107 w _ g503 zaxbl zaxbm zaxbn from by repeat (first | (with_reducible first | exact zaxaz.out | apply zaxar | apply zaxat | apply zaxas | apply zaxaw | apply zaxax | apply zaxay | refine zaxau ?_ zaxbd.out _) | exact zaxaz.out)) (zrk HO_517004) (by decide)) hk (fun _ h => h.2)) (fun _ h => h.1)); have n2_ := zaxap (KeepBut.blk hk (g' := zaxbb) (o := .cells #[.int .i64 t508, .bool false, .int .i64 0, .string (⟨#[]⟩ : ByteArray), u517004] 24 (0, 0)) (zbk zaxba) zaxbo.out (by simp)); have n3_ := zaxap (hb); have n4_ := zaxap (hi); clear HO_5; clear HO_517004; clear zaxba; clear HB; clear zaxaz; have HO_5 := n0_; have HO_517004 := n1_; have zaxba := n2_; have HB := n3_; have zaxaz := n4_; clear n0_ n1_ n2_ n3_ n4_; (try clear hb); (try clear hk); (try clear hi); have hnb38 := zaxbo.out; have hnc38 := zaxbd.out; have zaxcx : w37.cell? ⟨zaxbb, 0, none⟩ = some (.int .i64 t508) := (zaxak zaxba.out 0).trans rfl; have zaxcy : w37.cell? ⟨zaxbb, 1, none⟩ = some (.bool false) := (zaxak zaxba.out 1).trans rfl; have zaxcz : w37.cell? ⟨zaxbb, 2, none⟩ = some (.int .i64 0) := (zaxak zaxba.out 2).trans rfl; have zaxda : w37.cell? ⟨zaxbb, 3, none⟩ = some (.string (⟨#[]⟩ : ByteArray)) := (zaxak zaxba.out 3).trans rfl; have zaxdb : w37.cell? ⟨zaxbb, 4, none⟩ = some (u517004) := (zaxak zaxba.out 4).trans rfl; have zaxdc := zaxal zaxba.out 0; have zaxdd := zaxal zaxba.out 1; have zaxde := zaxal zaxba.out 2; have zaxdf := zaxal zaxba.out 3; have zaxdg := zaxal zaxba.out 4; obtain ⟨Ao40, co40, eo40⟩ := Kd.R_slice HO_517004.out; subst eo40) | ((with_reducible refine gate_callee (f := 9) rfl ?_); refine goesL_ (some 42) rfl rfl Try.func9 (by kernel_rfl) rfl #[.slice Ao40 zaxbc.length co40] rfl (by (try simp only [zaxam, zaxan, zaxao]); first | done | rfl) ?_; (with_reducible refine (chain_Pieces.calls k2 _ _ zaxbc t539 t540 _ ?side1 ?side2 A35.out).mono ?_); (case side1 => refine (Kd.R_reads' (e := 72) (base := w.heap.size) (ok := fun k_ => True) (n := zaxbc.length) (c := co40) ?_).2.2; exact (by (with_reducible repeat (first | apply Kd.R_alloc | apply Kd.R_drewN | apply Kd.R_drew)); exact (Kd.R_mono (Kd.R_far (p := ⟨zaxbb, 3, none⟩) (Kd.R_types HO_517004.out zaxba.out (by decide)) (fun _ hk => hk.2) (.string t535)) (fun _ h_ => h_.1)))); (case side2 => exact (Kd.R_reads' HO_517004.out).2.1); rintro e w41 ⟨rfl, hb⟩; refine ⟨_, rfl, ?_⟩; have n0_ := zaxap (Kd.S_below (by (with_reducible repeat (first | apply Kd.S_alloc | apply Kd.S_drewN | apply Kd.S_drew)); exact (Kd.S_mono (Kd.S_far (p := ⟨zaxbb, 3, none⟩) (Kd.S_mono HO_5.out (fun k_ hk => (⟨hk, hk.2⟩ : _ ∧ k_ ≠ zaxbb))) (fun _ hk => hk.2) (.string t535)) (fun _ h_ => h_.1))) hb); have n1_ := zaxap (Kd.R_below (by (with_reducible repeat (first | apply Kd.R_alloc | apply Kd.R_drewN | apply Kd.R_drew)); exact (Kd.R_mono (Kd.R_far (p := ⟨zaxbb, 3, none⟩) (Kd.R_types HO_517004.out zaxba.out (by decide)) (fun _ hk => hk.2) (.string t535)) (fun _ h_ => h_.1))) hb); have n2_ := zaxap (blk_below (g := zaxbb) (o := .cells #[.int .i64 t508, .bool false, .int .i64 0, .string t535, .slice Ao40 zaxbc.length co40] 24 (0, 0)) (by (with_reducible repeat (first | refine zaxad ?_ _ | refine zaxaf ?_ | refine zaxae ?_ _)); refine blk_put (cs := #[.int .i64 t508, .bool false, .int .i64 0, .string (⟨#[]⟩ : ByteArray), .slice Ao40 zaxbc.length co40]) ?_ 3 _ rfl; exact zbk zaxba) hb); have n3_ := zaxap (IsS107.below (show IsS107 w (w37.setCell ⟨zaxbb, 3, none⟩ (.string t535)) g503 t536 t537 t538 from by repeat (first | (with_reducible first | exact zaxaz.out | apply zaxar | apply zaxat | apply zaxas | apply zaxaw | apply zaxax | apply zaxay | refine zaxau ?_ zaxbd.out _) | exact zaxaz.out)) hb); have n4_ := zaxap (below_step (zh2 HB ⟨zaxav zaxaz.out⟩ zaxbk) hb); clear HO_5; clear HO_517004; clear zaxba; clear zaxaz; clear HB; have HO_5 := n0_; have HO_517004 := n1_; have zaxba := n2_; have zaxaz := n3_; have HB := n4_; clear n0_ n1_ n2_ n3_ n4_; (try clear hb); (try clear hk); (try clear hi); have zaxdh : w41.cell? ⟨zaxbb, 0, none⟩ = some (.int .i64 t508) := (zaxak zaxba.out 0).trans rfl; have zaxdi : w41.cell? ⟨zaxbb, 1, none⟩ = some (.bool false) := (zaxak zaxba.out 1).trans rfl; have zaxdj : w41.cell? ⟨zaxbb, 2, none⟩ = some (.int .i64 0) := (zaxak zaxba.out 2).trans rfl; have zaxdk : w41.cell? ⟨zaxbb, 3, none⟩ = some (.string t535) := (zaxak zaxba.out 3).trans rfl; have zaxdl : w41.cell? ⟨zaxbb, 4, none⟩ = some (.slice Ao40 zaxbc.length co40) := (zaxak zaxba.out 4).trans rfl; have zaxdm := zaxal zaxba.out 0; have zaxdn := zaxal zaxba.out 1; have zaxdo := zaxal zaxba.out 2; have zaxdp := zaxal zaxba.out 3; have zaxdq := zaxal zaxba.out 4) | ((with_reducible refine gate_store (t := 3) (p := 45) rfl ?_); refine store_event (t := 3) (p := 45) (v := ?vo_w43) (w1 := (w41.setCell ⟨zaxbb, 2, none⟩ (.int .i64 t539))) ?hg ?ho ?hn ?hr ?_; (case ho => rfl); (case hg => rfl); (case hn => rfl); (case hr => first | (go_simp; done) | (go_simp; rfl)); intro w43 hw; have n0_ : Aside0 (Kd.S k24 24 w43 w.heap.size (fun k_ => some k_ ≠ (.slice Ao40 zaxbc.length co40 : Value).ownBlock ∧ k_ ≠ zaxbb) u5 zaxbf) := ⟨(by rw [hw]; exact (by (with_reducible repeat (first | apply Kd.S_alloc | apply Kd.S_drewN | apply Kd.S_drew)); exact Kd.S_mono (Kd.S_far (p := ⟨zaxbb, 2, none⟩) (Kd.S_mono HO_5.out (fun k_ hk => (⟨hk, hk.2⟩ : _ ∧ k_ ≠ zaxbb))) (fun _ hk => hk.2) (.int .i64 t539)) (fun _ hk => ⟨hk.1.1, hk.1.2⟩)))⟩; have n1_ : Aside0 (Kd.R k72 72 w43 w.heap.size (fun _ => True) (.slice Ao40 zaxbc.length co40) zaxbc) := ⟨(by rw [hw]; exact (by (with_reducible repeat (first | apply Kd.R_alloc | apply Kd.R_drewN | apply Kd.R_drew)); exact Kd.R_mono (Kd.R_far (p := ⟨zaxbb, 2, none⟩) (Kd.R_types HO_517004.out zaxba.out (by decide)) (fun _ hk => hk.2) (.int .i64 t539)) (fun _ hk => trivial)))⟩; have n2_ : Aside0 (w43.heap[zaxbb]? = some (.cells #[.int .i64 t508, .bool false, .int .i64 t539, .string t535, .slice Ao40 zaxbc.length co40] 24 (0, 0))) := ⟨(by rw [hw]; exact (by (with_reducible repeat (first | refine zaxad ?_ _ | refine zaxaf ?_ | refine zaxae ?_ _)); refine blk_put (cs := #[.int .i64 t508, .bool false, .int .i64 0, .string t535, .slice Ao40 zaxbc.length co40]) ?_ 2 _ rfl; exact zbk zaxba))⟩; have n3_ : Aside0 (IsS107 w w43 g503 t536 t537 t538) := ⟨(by rw [hw]; exact (by repeat (first | (with_reducible first | exact zaxaz.out | apply zaxar | apply zaxat | apply zaxas | apply zaxaw | apply zaxax | apply zaxay | refine zaxau ?_ zaxbd.out _) | exact zaxaz.out)))⟩; have n4_ : Aside0 (Below w.heap.size w w43) := ⟨(by rw [hw]; exact (zh2 HB ⟨zaxav zaxaz.out⟩ zaxbk))⟩; clear hw; clear HO_5; clear HO_517004; clear zaxba; clear zaxaz; clear HB; have HO_5 := n0_; have HO_517004 := n1_; have zaxba := n2_; have zaxaz := n3_; have HB := n4_; clear n0_ n1_ n2_ n3_ n4_; have zaxdr : w43.cell? ⟨zaxbb, 0, none⟩ = some (.int .i64 t508) := (zaxak zaxba.out 0).trans rfl; have zaxds : w43.cell? ⟨zaxbb, 1, none⟩ = some (.bool false) := (zaxak zaxba.out 1).trans rfl; have zaxdt : w43.cell? ⟨zaxbb, 2, none⟩ = some (.int .i64 t539) := (zaxak zaxba.out 2).trans rfl; have zaxdu : w43.cell? ⟨zaxbb, 3, none⟩ = some (.string t535) := (zaxak zaxba.out 3).trans rfl; have zaxdv : w43.cell? ⟨zaxbb, 4, none⟩ = some (.slice Ao40 zaxbc.length co40) := (zaxak zaxba.out 4).trans rfl; have zaxdw := zaxal zaxba.out 0; have zaxdx := zaxal zaxba.out 1; have zaxdy := zaxal zaxba.out 2; have zaxdz := zaxal zaxba.out 3; have zaxea := zaxal zaxba.out 4) | ((with_reducible refine gate_builtin (b := .append) (xs := #[.tmp 46, .tmp 48]) rfl ?_); at_builtin; refine Kd.S_append k24 (w0 := w) w.heap.size rfl (.tmp 46) (.tmp 48) 39 24 (.agg #[(.int .i64 0), (.bool false), (.int .i64 0), (.string ⟨#[]⟩), (.slice none 0 0)]) 64 rfl Try.underlying39 info24 rfl (by decide) (by omega) u5 zaxbf (⟨t508, false, t539, t535, zaxbc⟩ : S24) [.int .i64 t508, .bool false, .int .i64 t539, .string t535, .slice Ao40 zaxbc.length co40] (fun k_ => k_ ≠ zaxbb) (fun k_ => some k_ = (.slice Ao40 zaxbc.length co40 : Value).ownBlock) rfl rfl ?aP (fun k_ hk_ => ((Kd.R_mono (ok' := fun k_ => ((fun k_ => k_ ≠ zaxbb)) k_ ∧ some k_ ≠ (u5 : Value).ownBlock) (Kd.R_types (Kd.R_apart' (HO_517004.out) (Kd.S_typed HO_5.out) (by decide)) zaxba.out (by decide)) (fun k_ hk => ⟨hk.2, hk.1.2⟩))).1 k_ hk_.symm) ?aF ?aO ?aB ?aS ?aL ?_; (case aP => exact k24_mkM _ _ _ (⟨t508, false, t539, t535, zaxbc⟩ : S24) (Kd.R_mono (Kd.R_tight rfl (Kd.R_mono (ok' := fun k_ => ((fun k_ => k_ ≠ zaxbb)) k_ ∧ some k_ ≠ (u5 : Value).ownBlock) (Kd.R_types (Kd.R_apart' (HO_517004.out) (Kd.S_typed HO_5.out) (by decide)) zaxba.out (by decide)) (fun k_ hk => ⟨hk.2, hk.1.2⟩))) (fun _ h_ => h_))); (case aB => exact (zh2 HB ⟨zaxav zaxaz.out⟩ zaxbk)); (case aF => exact (fun k_ hk => Kd.freshB (g := zaxbb) (o := .cells #[.int .i64 t508, .bool false, .int .i64 t539, .string t535, .slice Ao40 zaxbc.length co40] 24 (0, 0)) (zbk zaxba) k_ hk)); (case aO => exact (by (with_reducible repeat (first | apply Kd.S_alloc | apply Kd.S_drewN | apply Kd.S_drew)); exact Kd.S_mono HO_5.out (fun k_ hk => ⟨hk.2, fun e_ => hk.1 e_⟩))); (case aS => exact (below_size (zh2 HB ⟨zaxav zaxaz.out⟩ zaxbk))); (case aL => have := LMc36.out; omega); intro v542 w45 ho hb hg hat; rw [← Ny541.out] at ho; have n0_ := zaxap (blk_grown (g := zaxbb) (o := .cells #[.int .i64 t508, .bool false, .int .i64 t539, .string t535, .slice Ao40 zaxbc.length co40] 24 (0, 0)) (zbk zaxba) hg (Kd.S_away HO_5.out (fun _ hk => hk.2))); have n1_ := zaxap (IsS107.grown (show IsS107 w _ g503 t536 t537 t538 from by repeat (first | (with_reducible first | exact zaxaz.out | apply zaxar | apply zaxat | apply zaxas | apply zaxaw | apply zaxax | apply zaxay | refine zaxau ?_ zaxbd.out _) | exact zaxaz.out)) hg (IsS107.own_neS zaxaz.out HO_5.out (by decide))); have n2_ := zaxap (hb); have n3_ := zaxap (ho); clear zaxba; clear zaxaz; clear HB; clear HO_5; clear HO_517004; have zaxba := n0_; have zaxaz := n1_; have HB := n2_; have HO543 := n3_; clear n0_ n1_ n2_ n3_; clear ho hb hg hat))
         go_roundg k2
         case measure => have := HK1.out; have := HK2.out; omega
         case rel => exact ⟨(y541), (wrap64 (zaxbj + 1)), (t536), (t537), (t538), (by first | rfl | (simp; done) | (simp [*]; done)), H', ⟨by have := HK1.out; have := HK2.out; omega⟩, ⟨by (with_reducible repeat (first | apply Kd.S_alloc | apply Kd.S_drewN | apply Kd.S_drew)); exact Kd.S_mono HO543.out (fun _ hk => trivial)⟩, ⟨by repeat (first | (with_reducible first | exact zaxaz.out | apply zaxar | apply zaxat | apply zaxas | apply zaxaw | apply zaxax | apply zaxay | refine zaxau ?_ zaxbd.out _) | exact zaxaz.out)⟩, ⟨zh2 HB ⟨zaxav zaxaz.out⟩ zaxbk⟩⟩
        ·rw [if_neg c36] at H
         exact absurd H (by simp)
   ·rw [if_neg c6] at H
    have c6b0 : decide (zaxbj < t504) = false := decide_eq_false c6
    clear c6
    replace H := Option.bind_eq_some_iff.mp H
    obtain ⟨⟨t544, t545, t546, t547⟩, A460, H⟩ := H
    replace H : (if t544 = 0 then ((chain_right.f k1 zaxbf).bind fun t548 => (if t548 = true then (some (zaxbf, 0)) else (some (([] : List (S24)), 3)))) else (some (([] : List (S24)), 3))) = some (r1, r2) := H
    have A46 := zaxap A460
    clear A460
    by_cases c47 : t544 = 0
    ·rw [if_pos c47] at H
     have c47b0 : (t544 == 0) = true := beq_iff_eq.mpr c47
     have c47b1 : (t544 != 0) = false := bne_eq_false_iff_eq.mpr c47
     clear c47
     replace H := Option.bind_eq_some_iff.mp H
     obtain ⟨t548, A480, H⟩ := H
     replace H : (if t548 = true then (some (zaxbf, 0)) else (some (([] : List (S24)), 3))) = some (r1, r2) := H
     have A48 := zaxap A480
     clear A480
     by_cases c49 : t548 = true
     ·subst c49
      have H1 : (some (zaxbf, 0)) = some (r1, r2) := by rw [if_pos rfl] at H; exact H
      clear H
      have H := H1
      clear H1
      simp only [Option.some.injEq, Prod.mk.injEq] at H
      obtain ⟨rfl, rfl⟩ := H
      go_wp2_with (first | ((with_reducible refine gate_callee (f := 51) rfl ?_); refine goesL_ (some 52) rfl rfl Try.func51 (by kernel_rfl) rfl #[.pointer (some ⟨g503, 0, none⟩)] rfl (by (try simp only [zaxam, zaxan, zaxao]); first | done | rfl) ?_; (with_reducible refine (octet_Reader_End.calls g503 zaxbg zaxbh zaxbi t544 t545 t546 t547 w _ ?side1 ?side2 A46.out).mono ?_); (case side1 => repeat (first | (with_reducible first | exact zaxaz.out | apply zaxar | apply zaxat | apply zaxas | apply zaxaw | apply zaxax | apply zaxay) | exact zaxaz.out)); (case side2 => repeat (first | (with_reducible first | exact HB.out | apply zaxaj | apply zaxah | apply zaxai | refine zaxag ?_ (zaxav zaxaz.out)) | exact HB.out)); rintro e w50 ⟨rfl, hi, hb, hk⟩; refine ⟨_, rfl, ?_⟩; have n0_ := zaxap (Kd.S_mono (Kd.S_keep (IsS107.apartS (show IsS107 w _ g503 zaxbg zaxbh zaxbi from by repeat (first | (with_reducible first | exact zaxaz.out | apply zaxar | apply zaxat | apply zaxas | apply zaxaw | apply zaxax | apply zaxay) | exact zaxaz.out)) (zsk HO_5) (by decide)) hk (fun _ h => h.2)) (fun _ h => h.1)); have n1_ := zaxap (hb); have n2_ := zaxap (hi); clear HO_5; clear HB; clear zaxaz; have HO_5 := n0_; have HB := n1_; have zaxaz := n2_; clear n0_ n1_ n2_; (try clear hb); (try clear hk); (try clear hi); obtain ⟨Ao51, co51, eo51⟩ := Kd.S_slice HO_5.out; subst eo51) | (go_at_call 37; (with_reducible refine (chain_right.calls k1 _ _ zaxbf true _ ?side1 ?side2 A48.out).mono ?_); (case side1 => repeat (first | exact (Kd.S_reads' HO_5.out).2.2 | (with_reducible refine Kd.C_alloc ?_ _) | (with_reducible refine Kd.C_drewN ?_ _) | (with_reducible refine Kd.C_drew ?_))); (case side2 => exact (Kd.S_reads' HO_5.out).2.1); rintro e w52 ⟨rfl, hb⟩; have n0_ := zaxap (Kd.S_below (zsk HO_5) hb); have n1_ := zaxap (IsS107.below (zh4 zaxaz) hb); have n2_ := zaxap (below_step (zh1 HB ⟨zaxav zaxaz.out⟩) hb); clear HO_5; clear zaxaz; clear HB; have HO_5 := n0_; have zaxaz := n1_; have HB := n2_; clear n0_ n1_ n2_; (try clear hb); (try clear hk); (try clear hi)))
      go_ret2
      exact ⟨_, by first | rfl | (simp [errW_none, errW_some] <;> rfl) | (simp [*, errW_none, errW_some] <;> rfl), by (with_reducible repeat (first | apply Kd.S_alloc | apply Kd.S_drewN | apply Kd.S_drew)); exact HO_5.out, zh1 HB ⟨zaxav zaxaz.out⟩⟩
     ·replace c49 := Bool.eq_false_iff.mpr c49
      subst c49
      have H1 : (some (([] : List (S24)), 3)) = some (r1, r2) := by rw [if_neg (show ¬ (false = true) by decide)] at H; exact H
      clear H
      have H := H1
      clear H1
      simp only [Option.some.injEq, Prod.mk.injEq] at H
      obtain ⟨rfl, rfl⟩ := H
      go_wp2_with (first | ((with_reducible refine gate_callee (f := 51) rfl ?_); refine goesL_ (some 52) rfl rfl Try.func51 (by kernel_rfl) rfl #[.pointer (some ⟨g503, 0, none⟩)] rfl (by (try simp only [zaxam, zaxan, zaxao]); first | done | rfl) ?_; (with_reducible refine (octet_Reader_End.calls g503 zaxbg zaxbh zaxbi t544 t545 t546 t547 w _ ?side1 ?side2 A46.out).mono ?_); (case side1 => repeat (first | (with_reducible first | exact zaxaz.out | apply zaxar | apply zaxat | apply zaxas | apply zaxaw | apply zaxax | apply zaxay) | exact zaxaz.out)); (case side2 => repeat (first | (with_reducible first | exact HB.out | apply zaxaj | apply zaxah | apply zaxai | refine zaxag ?_ (zaxav zaxaz.out)) | exact HB.out)); rintro e w53 ⟨rfl, hi, hb, hk⟩; refine ⟨_, rfl, ?_⟩; have n0_ := zaxap (Kd.S_mono (Kd.S_keep (IsS107.apartS (show IsS107 w _ g503 zaxbg zaxbh zaxbi from by repeat (first | (with_reducible first | exact zaxaz.out | apply zaxar | apply zaxat | apply zaxas | apply zaxaw | apply zaxax | apply zaxay) | exact zaxaz.out)) (zsk HO_5) (by decide)) hk (fun _ h => h.2)) (fun _ h => h.1)); have n1_ := zaxap (hb); have n2_ := zaxap (hi); clear HO_5; clear HB; clear zaxaz; have HO_5 := n0_; have HB := n1_; have zaxaz := n2_; clear n0_ n1_ n2_; (try clear hb); (try clear hk); (try clear hi); obtain ⟨Ao54, co54, eo54⟩ := Kd.S_slice HO_5.out; subst eo54) | (go_at_call 37; (with_reducible refine (chain_right.calls k1 _ _ zaxbf false _ ?side1 ?side2 A48.out).mono ?_); (case side1 => repeat (first | exact (Kd.S_reads' HO_5.out).2.2 | (with_reducible refine Kd.C_alloc ?_ _) | (with_reducible refine Kd.C_drewN ?_ _) | (with_reducible refine Kd.C_drew ?_))); (case side2 => exact (Kd.S_reads' HO_5.out).2.1); rintro e w55 ⟨rfl, hb⟩; have n0_ := zaxap (Kd.S_below (zsk HO_5) hb); have n1_ := zaxap (IsS107.below (zh4 zaxaz) hb); have n2_ := zaxap (below_step (zh1 HB ⟨zaxav zaxaz.out⟩) hb); clear HO_5; clear zaxaz; clear HB; have HO_5 := n0_; have zaxaz := n1_; have HB := n2_; clear n0_ n1_ n2_; (try clear hb); (try clear hk); (try clear hi)))
      go_ret2
      exact ⟨_, by first | rfl | (simp [errW_none, errW_some] <;> rfl) | (simp [*, errW_none, errW_some] <;> rfl), by first | exact Kd.S_nil _ _ _ _ _ | exact Kd.N_nil _ _ _ _ _ | exact Kd.V_nil _ _ _ _ _ | exact Kd.Q_nil _ _ _ _ _ | exact Kd.R_nil _ _ _ _ _, zh1 HB ⟨zaxav zaxaz.out⟩⟩
    ·rw [if_neg c47] at H
     have c47b0 : (t544 == 0) = false := beq_eq_false_iff_ne.mpr c47
     have c47b1 : (t544 != 0) = true := bne_iff_ne.mpr c47
     simp only [Option.some.injEq, Prod.mk.injEq] at H
     obtain ⟨rfl, rfl⟩ := H
     go_wp2_with (first | ((with_reducible refine gate_callee (f := 51) rfl ?_); refine goesL_ (some 52) rfl rfl Try.func51 (by kernel_rfl) rfl #[.pointer (some ⟨g503, 0, none⟩)] rfl (by (try simp only [zaxam, zaxan, zaxao]); first | done | rfl) ?_; (with_reducible refine (octet_Reader_End.calls g503 zaxbg zaxbh zaxbi t544 t545 t546 t547 w _ ?side1 ?side2 A46.out).mono ?_); (case side1 => repeat (first | (with_reducible first | exact zaxaz.out | apply zaxar | apply zaxat | apply zaxas | apply zaxaw | apply zaxax | apply zaxay) | exact zaxaz.out)); (case side2 => repeat (first | (with_reducible first | exact HB.out | apply zaxaj | apply zaxah | apply zaxai | refine zaxag ?_ (zaxav zaxaz.out)) | exact HB.out)); rintro e w56 ⟨rfl, hi, hb, hk⟩; refine ⟨_, rfl, ?_⟩; have n0_ := zaxap (Kd.S_mono (Kd.S_keep (IsS107.apartS (show IsS107 w _ g503 zaxbg zaxbh zaxbi from by repeat (first | (with_reducible first | exact zaxaz.out | apply zaxar | apply zaxat | apply zaxas | apply zaxaw | apply zaxax | apply zaxay) | exact zaxaz.out)) (zsk HO_5) (by decide)) hk (fun _ h => h.2)) (fun _ h => h.1)); have n1_ := zaxap (hb); have n2_ := zaxap (hi); clear HO_5; clear HB; clear zaxaz; have HO_5 := n0_; have HB := n1_; have zaxaz := n2_; clear n0_ n1_ n2_; (try clear hb); (try clear hk); (try clear hi)))
     go_ret2
     exact ⟨_, by first | rfl | (simp [errW_none, errW_some] <;> rfl) | (simp [*, errW_none, errW_some] <;> rfl), by first | exact Kd.S_nil _ _ _ _ _ | exact Kd.N_nil _ _ _ _ _ | exact Kd.V_nil _ _ _ _ _ | exact Kd.Q_nil _ _ _ _ _ | exact Kd.R_nil _ _ _ _ _, zh1 HB ⟨zaxav zaxaz.out⟩⟩

/-! ### stowageref01_ReadNumber: function 66 -/
mutual
def stowageref01_ReadNumber.j0 : Nat → ByteArray → Int → Bool → Option (Int × Int × Int)
 | 0, _, _, _ => none
 | k + 1, x0, x1, x18 => if x18 = true then (some (0, 0, 1)) else (stowageref01_ReadNumber.l0 k x0 x1 0 1 x1)
def stowageref01_ReadNumber.l0 : Nat → ByteArray → Int → Int → Int → Int → Option (Int × Int × Int)
 | 0, _, _, _, _, _ => none
 | k + 1, x0, x1, x7, x8, x9 => if x9 ≥ (x0.size : Int) then (some (0, 0, 5)) else (if 0 ≤ x9 then (if x9 < (x0.size : Int) then (if (wrap64 (x9 - x1)) = 9 then (if (IntKind.u64.wrap (bt x0 x9)) > 1 then (stowageref01_ReadNumber.j2 k x0 x1 x7 x8 x9 (IntKind.u64.wrap (bt x0 x9)) true) else (if x9 > x1 then (stowageref01_ReadNumber.j2 k x0 x1 x7 x8 x9 (IntKind.u64.wrap (bt x0 x9)) ((IntKind.u64.wrap (bt x0 x9)) == 0)) else (stowageref01_ReadNumber.j2 k x0 x1 x7 x8 x9 (IntKind.u64.wrap (bt x0 x9)) false))) else (if x9 > x1 then (stowageref01_ReadNumber.j2 k x0 x1 x7 x8 x9 (IntKind.u64.wrap (bt x0 x9)) ((IntKind.u64.wrap (bt x0 x9)) == 0)) else (stowageref01_ReadNumber.j2 k x0 x1 x7 x8 x9 (IntKind.u64.wrap (bt x0 x9)) false))) else (none)) else (none))
def stowageref01_ReadNumber.j2 : Nat → ByteArray → Int → Int → Int → Int → Int → Bool → Option (Int × Int × Int)
 | 0, _, _, _, _, _, _, _ => none
 | k + 1, x0, x1, x7, x8, x9, x10, x46 => if x46 = true then (some (0, 0, 3)) else (if x10 < 128 then (some (IntKind.u64.wrap (x7 + (IntKind.u64.wrap ((Int.tmod x10 128) * x8))), wrap64 (x9 + 1), 0)) else (stowageref01_ReadNumber.l0 k x0 x1 (IntKind.u64.wrap (x7 + (IntKind.u64.wrap ((Int.tmod x10 128) * x8)))) (IntKind.u64.wrap (x8 * 128)) (wrap64 (x9 + 1))))
end
def stowageref01_ReadNumber.f (k : Nat) (a0 : ByteArray) (a1 : Int) : Option (Int × Int × Int) := if a1 < 0 then (stowageref01_ReadNumber.j0 k a0 a1 true) else (stowageref01_ReadNumber.j0 k a0 a1 (decide (a1 > (a0.size : Int))))
set_option maxHeartbeats 8000000 in
set_option maxRecDepth 100000 in
theorem stowageref01_ReadNumber.calls (k : Nat) (a0 : ByteArray) (a1 : Int) (r1 : Int) (r2 : Int) (r3 : Int) (w : World) (h : stowageref01_ReadNumber.f k a0 a1 = some (r1, r2, r3)) :
  Calls Try.prog 66 #[.string a0, .int .i64 a1] w fun e w' => e = .returned (.tuple #[.int .u64 r1, .int .i64 r2, .int .i64 r3]) ∧ Drawn0 w w' := by
 have H : (if a1 < 0 then (stowageref01_ReadNumber.j0 k a0 a1 true) else (stowageref01_ReadNumber.j0 k a0 a1 (decide (a1 > (a0.size : Int))))) = some (r1, r2, r3) := h
 clear h
 have HC3 := zaxap H
 clear H
 go_enter Try.func66, Try.ntmps66
 go_upto_region 1 with (fail)
 go_cut [18] (fun v18 wc => ∃ (kq : Nat) (zaxbw : Bool), v18 = .bool zaxbw ∧ Aside0 (stowageref01_ReadNumber.j0 kq a0 a1 zaxbw = some (r1, r2, r3)) ∧ Aside0 (kq ≤ k) ∧ Drawn0 w wc)
 case first =>
  have H := HC3.out
  clear HC3
  by_cases c4 : a1 < 0
  ·rw [if_pos c4] at H
   have c4b0 : decide (a1 < 0) = true := decide_eq_true c4
   clear c4
   (first | rw [c4b0] | (simp only [i64_w, i32_w]; rw [c4b0]) | skip)
   have H' := zaxap H
   clear H
   go_wp2
   go_meet
   case rel => exact ⟨_, (true), (by first | rfl | (simp; done) | (simp [*]; done)), H', ⟨by first | omega | exact Nat.le_refl _⟩, by repeat (first | exact Drawn0.refl _ | apply Drawn0.step)⟩
  ·rw [if_neg c4] at H
   have c4b0 : decide (a1 < 0) = false := decide_eq_false c4
   clear c4
   (first | rw [c4b0] | (simp only [i64_w, i32_w]; rw [c4b0]) | skip)
   have H' := zaxap H
   clear H
   go_wp2
   go_meet
   case rel => exact ⟨_, (decide (a1 > (a0.size : Int))), (by first | rfl | (simp; done) | (simp [*]; done)), H', ⟨by first | omega | exact Nat.le_refl _⟩, by repeat (first | exact Drawn0.refl _ | apply Drawn0.step)⟩
 case rest =>
  clear HC3
  try clear p2
  try clear c4
  try clear c4b0
  obtain ⟨kq, zaxbw, rfl, HA, HJ2, ⟨mc2, rfl⟩⟩ := hcut
  cases kq with
  | zero => exact absurd HA.out (by simp [stowageref01_ReadNumber.j0])
  | succ kj2 =>
   have H := HA.out
   clear HA
   simp only [stowageref01_ReadNumber.j0] at H
   by_cases c5 : zaxbw = true
   ·subst c5
    have H1 : (some (0, 0, 1)) = some (r1, r2, r3) := by rw [if_pos rfl] at H; exact H
    clear H
    have H := H1
    clear H1
    simp only [Option.some.injEq, Prod.mk.injEq] at H
    obtain ⟨rfl, rfl, rfl⟩ := H
    go_wp2
    go_ret3
    exact ⟨by first | rfl | (simp; done) | (simp [*]; done), by repeat (first | exact Drawn0.refl _ | apply Drawn0.step)⟩
   ·replace c5 := Bool.eq_false_iff.mpr c5
    subst c5
    have H1 : (stowageref01_ReadNumber.l0 kj2 a0 a1 0 1 a1) = some (r1, r2, r3) := by rw [if_neg (show ¬ (false = true) by decide)] at H; exact H
    clear H
    have H := H1
    clear H1
    have H' := zaxap H
    clear H
    go_wp2
    go_loopg [7, 8, 9] kj2 (fun kq v7 v8 v9 w' => ∃ (zaxbv : Int) (zaxbt : Int) (zaxbe : Int), v7 = .int .u64 zaxbv ∧ v8 = .int .u64 zaxbt ∧ v9 = .int .i64 zaxbe ∧ Aside0 (stowageref01_ReadNumber.l0 kq a0 a1 zaxbv zaxbt zaxbe = some (r1, r2, r3)) ∧ Aside0 (kq ≤ kj2) ∧ Drawn0 w w')
    case atStart => exact ⟨(0), (1), (a1), (by first | rfl | (simp; done) | (simp [*]; done)), (by first | rfl | (simp; done) | (simp [*]; done)), (by first | rfl | (simp; done) | (simp [*]; done)), H', ⟨Nat.le_refl _⟩, by repeat (first | exact Drawn0.refl _ | apply Drawn0.step)⟩
    case round =>
     clear H'
     try clear c2
     try clear p2
     try clear c4
     try clear c4b0
     try clear c5
     try clear p2
     obtain ⟨zaxbv, zaxbt, zaxbe, rfl, rfl, rfl, HA, HK2, ⟨m2, rfl⟩⟩ := hrel
     cases gk with
     | zero => exact absurd HA.out (by simp [stowageref01_ReadNumber.l0])
     | succ k2 =>
      have H := HA.out
      clear HA
      simp only [stowageref01_ReadNumber.l0] at H
      by_cases c6 : zaxbe ≥ (a0.size : Int)
      ·rw [if_pos c6] at H
       have c6b0 : decide ((a0.size : Int) ≤ zaxbe) = true := decide_eq_true c6
       clear c6
       simp only [Option.some.injEq, Prod.mk.injEq] at H
       obtain ⟨rfl, rfl, rfl⟩ := H
       go_wp2
       go_ret3
       exact ⟨by first | rfl | (simp; done) | (simp [*]; done), by repeat (first | exact Drawn0.refl _ | apply Drawn0.step)⟩
      ·rw [if_neg c6] at H
       have c6b0 : decide ((a0.size : Int) ≤ zaxbe) = false := decide_eq_false c6
       clear c6
       by_cases c7 : 0 ≤ zaxbe
       ·rw [if_pos c7] at H
        have c7b0 : decide (0 ≤ zaxbe) = true := decide_eq_true c7
        clear c7
        by_cases c8 : zaxbe < (a0.size : Int)
        ·rw [if_pos c8] at H
         have c8b0 : decide (zaxbe < (a0.size : Int)) = true := decide_eq_true c8
         clear c8
         have HC10 := zaxap H
         clear H
         have p9 : 0 ≤ (zaxbe : Int) := of_decide_eq_true (by first | (with_reducible assumption) | assumption)
         have q9 : zaxbe < (a0.size : Int) := of_decide_eq_true (by first | (with_reducible assumption) | assumption)
         have hx9 := bt_at a0 zaxbe
         replace p9 := eq_true p9
         replace q9 := eq_true q9
         go_upto_region 10 with (fail)
         go_cut [46] (fun v46 wc => ∃ (kq : Nat) (zaxbx : Bool), v46 = .bool zaxbx ∧ Aside0 (stowageref01_ReadNumber.j2 kq a0 a1 zaxbv zaxbt zaxbe (IntKind.u64.wrap (bt a0 zaxbe)) zaxbx = some (r1, r2, r3)) ∧ Aside0 (kq ≤ k2) ∧ Drawn0 w wc)
         case first =>
          have H := HC10.out
          clear HC10
          by_cases c11 : (wrap64 (zaxbe - a1)) = 9
          ·rw [if_pos c11] at H
           have c11b0 : ((wrap64 (zaxbe - a1)) == 9) = true := beq_iff_eq.mpr c11
           have c11b1 : ((wrap64 (zaxbe - a1)) != 9) = false := bne_eq_false_iff_eq.mpr c11
           clear c11
           (first | rw [c11b0] | (simp only [i64_w, i32_w]; rw [c11b0]) | skip)
           by_cases c12 : (IntKind.u64.wrap (bt a0 zaxbe)) > 1
           ·rw [if_pos c12] at H
            have c12b0 : decide (1 < (IntKind.u64.wrap (bt a0 zaxbe))) = true := decide_eq_true c12
            clear c12
            have H' := zaxap H
            clear H
            go_wp2
            go_meet
            case rel => exact ⟨_, (true), (by first | rfl | (simp; done) | (simp [*]; done)), H', ⟨by have := HJ2.out; have := HK2.out; first | omega | exact Nat.le_refl _⟩, by repeat (first | exact Drawn0.refl _ | apply Drawn0.step)⟩
           ·rw [if_neg c12] at H
            have c12b0 : decide (1 < (IntKind.u64.wrap (bt a0 zaxbe))) = false := decide_eq_false c12
            clear c12
            by_cases c13 : zaxbe > a1
            ·rw [if_pos c13] at H
             have c13b0 : decide (a1 < zaxbe) = true := decide_eq_true c13
             clear c13
             have H' := zaxap H
             clear H
             go_wp2
             go_meet
             case rel => exact ⟨_, (((IntKind.u64.wrap (bt a0 zaxbe)) == 0)), (by first | rfl | (simp; done) | (simp [*]; done)), H', ⟨by have := HJ2.out; have := HK2.out; first | omega | exact Nat.le_refl _⟩, by repeat (first | exact Drawn0.refl _ | apply Drawn0.step)⟩
            ·rw [if_neg c13] at H
             have c13b0 : decide (a1 < zaxbe) = false := decide_eq_false c13
             clear c13
             have H' := zaxap H
             clear H
             go_wp2
             go_meet
             case rel => exact ⟨_, (false), (by first | rfl | (simp; done) | (simp [*]; done)), H', ⟨by have := HJ2.out; have := HK2.out; first | omega | exact Nat.le_refl _⟩, by repeat (first | exact Drawn0.refl _ | apply Drawn0.step)⟩
          ·rw [if_neg c11] at H
           have c11b0 : ((wrap64 (zaxbe - a1)) == 9) = false := beq_eq_false_iff_ne.mpr c11
           have c11b1 : ((wrap64 (zaxbe - a1)) != 9) = true := bne_iff_ne.mpr c11
           (first | rw [c11b0] | (simp only [i64_w, i32_w]; rw [c11b0]) | skip)
           by_cases c14 : zaxbe > a1
           ·rw [if_pos c14] at H
            have c14b0 : decide (a1 < zaxbe) = true := decide_eq_true c14
            clear c14
            have H' := zaxap H
            clear H
            go_wp2
            go_meet
            case rel => exact ⟨_, (((IntKind.u64.wrap (bt a0 zaxbe)) == 0)), (by first | rfl | (simp; done) | (simp [*]; done)), H', ⟨by have := HJ2.out; have := HK2.out; first | omega | exact Nat.le_refl _⟩, by repeat (first | exact Drawn0.refl _ | apply Drawn0.step)⟩
           ·rw [if_neg c14] at H
            have c14b0 : decide (a1 < zaxbe) = false := decide_eq_false c14
            clear c14
            have H' := zaxap H
            clear H
            go_wp2
            go_meet
            case rel => exact ⟨_, (false), (by first | rfl | (simp; done) | (simp [*]; done)), H', ⟨by have := HJ2.out; have := HK2.out; first | omega | exact Nat.le_refl _⟩, by repeat (first | exact Drawn0.refl _ | apply Drawn0.step)⟩
         case rest =>
          clear HC10
          try clear c1
          try clear c2
          try clear p2
          try clear c4
          try clear c4b0
          try clear c5
          try clear c6
          try clear c6b0
          try clear p6
          try clear c7
          try clear c7b0
          try clear c8
          try clear c8b0
          try clear p9
          try clear q9
          try clear hx9
          try clear c11
          try clear c11b0
          try clear c11b1
          try clear c12
          try clear c12b0
          try clear c13
          try clear c13b0
          try clear c14
          try clear c14b0
          try clear p2
          try clear p9
          try clear q9
          obtain ⟨kq, zaxbx, rfl, HA, HJ9, ⟨mc9, rfl⟩⟩ := hcut
          cases kq with
          | zero => exact absurd HA.out (by simp [stowageref01_ReadNumber.j2])
          | succ kj9 =>
           have H := HA.out
           clear HA
           simp only [stowageref01_ReadNumber.j2] at H
           by_cases c15 : zaxbx = true
           ·subst c15
            have H1 : (some (0, 0, 3)) = some (r1, r2, r3) := by rw [if_pos rfl] at H; exact H
            clear H
            have H := H1
            clear H1
            simp only [Option.some.injEq, Prod.mk.injEq] at H
            obtain ⟨rfl, rfl, rfl⟩ := H
            go_wp2
            go_ret3
            exact ⟨by first | rfl | (simp; done) | (simp [*]; done), by repeat (first | exact Drawn0.refl _ | apply Drawn0.step)⟩
           ·replace c15 := Bool.eq_false_iff.mpr c15
            subst c15
            have H1 : (if (IntKind.u64.wrap (bt a0 zaxbe)) < 128 then (some (IntKind.u64.wrap (zaxbv + (IntKind.u64.wrap ((Int.tmod (IntKind.u64.wrap (bt a0 zaxbe)) 128) * zaxbt))), wrap64 (zaxbe + 1), 0)) else (stowageref01_ReadNumber.l0 kj9 a0 a1 (IntKind.u64.wrap (zaxbv + (IntKind.u64.wrap ((Int.tmod (IntKind.u64.wrap (bt a0 zaxbe)) 128) * zaxbt)))) (IntKind.u64.wrap (zaxbt * 128)) (wrap64 (zaxbe + 1)))) = some (r1, r2, r3) := by rw [if_neg (show ¬ (false = true) by decide)] at H; exact H
            clear H
            have H := H1
            clear H1
            by_cases c16 : (IntKind.u64.wrap (bt a0 zaxbe)) < 128
            ·rw [if_pos c16] at H
             have c16b0 : decide ((IntKind.u64.wrap (bt a0 zaxbe)) < 128) = true := decide_eq_true c16
             clear c16
             simp only [Option.some.injEq, Prod.mk.injEq] at H
             obtain ⟨rfl, rfl, rfl⟩ := H
             go_wp2
             go_ret3
             exact ⟨by first | rfl | (simp; done) | (simp [*]; done), by repeat (first | exact Drawn0.refl _ | apply Drawn0.step)⟩
            ·rw [if_neg c16] at H
             have c16b0 : decide ((IntKind.u64.wrap (bt a0 zaxbe)) < 128) = false := decide_eq_false c16
             clear c16
             have H' := zaxap H
             clear H
             go_wp2
             go_roundg kj9
             case measure => have := HJ2.out; have := HK2.out; have := HJ9.out; omega
             case rel => exact ⟨(IntKind.u64.wrap (zaxbv + (IntKind.u64.wrap ((Int.tmod (IntKind.u64.wrap (bt a0 zaxbe)) 128) * zaxbt)))), (IntKind.u64.wrap (zaxbt * 128)), (wrap64 (zaxbe + 1)), (by first | rfl | (simp; done) | (simp [*]; done)), (by first | rfl | (simp; done) | (simp [*]; done)), (by first | rfl | (simp; done) | (simp [*]; done)), H', ⟨by have := HJ2.out; have := HK2.out; have := HJ9.out; omega⟩, by repeat (first | exact Drawn0.refl _ | apply Drawn0.step)⟩
        ·rw [if_neg c8] at H
         exact absurd H (by simp)
       ·rw [if_neg c7] at H
        exact absurd H (by simp)

end Go.Proofs.Ytmpnaaegahjfkaa.Q