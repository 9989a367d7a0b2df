/- ShotChunks answers true at every input. -/
import Derived.Outline
import Derived.StillTailTactics
import Derived.Deep.AppendLies
import Derived.Test.YthjfofgcikfepaaShR
import Derived.Test.YthjfofgcikfepaaShH
namespace Go.Proofs.Ythjfofgcikfepaa.Q
open Go.Maps Go.WideShapes Go.WideMaps Go.RowKit Go.Proofs.YthjfofgcikfepaaW.PrintWords Go.Proofs.YthjfofgcikfepaaW.PrintLast Go.Proofs.YthjfofgcikfepaaW.PrintMore
set_option linter.unusedVariables false
set_option linter.unusedSimpArgs false
set_option maxHeartbeats 10000000
set_option maxRecDepth 100000
/-! ShotChunks -/
def conv (x : S65) : S64 := ⟨x.f0, x.f1, x.f2, x.f3, x.f4⟩
theorem chunks_conv (a b : Int) (ms : List Int) (d : ByteArray) (w : Int) : chunksS ch64 a b ms d w = ((chunksS ch65 a b ms d w).1.map conv, (chunksS ch65 a b ms d w).2) := by
  unfold chunksS
  split
  · split
    · rfl
    · unfold chs; simp only [List.map_map]; rfl
  · rfl
theorem walkShotChunks (w : World) (A : Option Addr) (c : Nat) (a b : Int) (ms : List Int) (d : ByteArray) (hC : Kd.C (Kd.int .i64) w A ms.length ms) (hc : ms.length ≤ c) (wide : Int) (hw1 : wide ≤ 9223372036854775807) :
    Calls Try.prog 7 #[.agg #[.int .i64 a, .int .i64 b, .slice A ms.length c, .string d], .int .i64 wide] w fun e w' => e = .returned (.bool true) ∧ Below w.heap.size w w' := by
  have hu := Try.underlying24
  have hu2 := Try.underlying30
  have hu3 := Try.underlying65
  have hu4 := Try.underlying64
  have HCC := Aside0.mk hc
  obtain ⟨wi, hwi⟩ : ∃ wi, wi = if (d.size : Int) > 3000 then max wide 100 else wide := ⟨_, rfl⟩
  have hwi1 : wi ≤ 9223372036854775807 := by rw [hwi]; split <;> omega
  obtain ⟨k1, hk1⟩ := (chunks_ev a b ms d wi).rounds
  obtain ⟨k2, hk2⟩ := (rchunks_ev a b ms d wi hwi1 renc_ev).rounds
  rw [chunks_conv] at hk2
  have hlb := chunksS_len a b ms d wi
  generalize chunksS ch65 a b ms d wi = p at hk1 hk2 hlb
  obtain ⟨l, e1⟩ := p
  have H1 := Aside0.mk hk1
  have H2 := Aside0.mk hk2
  have HLB : Aside0 (l.length ≤ 400000) := ⟨hlb⟩
  have b1 : Below w.heap.size w (w.alloc (.cells #[.int .i64 a, .int .i64 b, .slice A ms.length c, .string d] 24 (0, 0))) := below_alloc (Below.refl _ _) _
  have XA := Aside0.mk (heap_alloc_new w (.cells #[.int .i64 a, .int .i64 b, .slice A ms.length c, .string d] 24 (0, 0)))
  have BA := Aside0.mk b1
  have CA := Aside0.mk (Kd.C_below hC b1)
  clear hC hc hk1 hk2 hlb hwi1 b1 hw1
  have mXA_0 := (blk_cell XA.out 0).trans rfl
  have mXA_1 := (blk_cell XA.out 1).trans rfl
  have mXA_2 := (blk_cell XA.out 2).trans rfl
  have mXA_3 := (blk_cell XA.out 3).trans rfl
  go_enter Try.func7, Try.ntmps7
  by_cases hz : (d.size : Int) > 3000
  · rw [if_pos hz] at hwi
    have hz1 : (3000 < (d.size : Int)) = True := eq_true hz
    go_upto_region 3 with (fail)
    generalize max wide 100 = mx at hwi ⊢
    subst hwi
    have eXA_0 := (blk_cell XA.out 0).trans rfl
    have eXA_1 := (blk_cell XA.out 1).trans rfl
    have eXA_2 := (blk_cell XA.out 2).trans rfl
    have eXA_3 := (blk_cell XA.out 3).trans rfl
    go_wp2_with (fail)
    generalize w.alloc (.cells #[.int .i64 a, .int .i64 b, .slice A ms.length c, .string d] 24 (0, 0)) = wA at XA BA CA ⊢
    have LX := Aside0.mk (blk_lt XA.out)
    refine (shot_Chunks.calls k1 a b A c ms d wi l e1 _ CA.out HCC.out H1.out).mono ?_
    rintro e w2 ⟨v, rfl, hR, hb⟩
    obtain ⟨A2, c2, rfl, hlc, hC2⟩ := Kd.R_reads hR
    have B2 := Aside0.mk hb
    have C2 := Aside0.mk hC2
    have LC2 := Aside0.mk hlc
    have X2 := Aside0.mk ((hb.block _ LX.out).trans XA.out)
    clear hR hb hC2 hlc eXA_0 eXA_1 eXA_2 eXA_3
    have eX2_0 := (blk_cell X2.out 0).trans rfl
    have eX2_1 := (blk_cell X2.out 1).trans rfl
    have eX2_2 := (blk_cell X2.out 2).trans rfl
    have eX2_3 := (blk_cell X2.out 3).trans rfl
    go_wp2_with (fail)
    refine (ref_calls a b A ms.length c d _).mono ?_
    rintro e w3 ⟨rfl, hb⟩
    have B3 := Aside0.mk (B2.out.trans (hb.mono B2.out.size))
    have F3 := Aside0.mk hb
    clear hb X2 eX2_0 eX2_1 eX2_2 eX2_3
    go_wp2_with (fail)
    refine (stowageref07_Chunks.calls k2 a b A c ms d wi (l.map conv) e1 _ (Kd.C_below CA.out B3.out) HCC.out H2.out).mono ?_
    rintro e w4 ⟨v, rfl, hR, hb⟩
    obtain ⟨A4, c4, rfl, hlc, hC4⟩ := Kd.R_reads hR
    have B4 := Aside0.mk (B3.out.trans (hb.mono B3.out.size))
    have F4 := Aside0.mk (F3.out.trans (hb.mono F3.out.size))
    have C4 := Aside0.mk hC4
    have LC4 := Aside0.mk hlc
    clear hR hb hC4 hlc B3 F3
    go_wp2_with (fail)
    refine (awk_calls _).mono ?_
    rintro e w5 ⟨rfl, hb⟩
    have BE := Aside0.mk (B4.out.trans (hb.mono B4.out.size))
    have FE := Aside0.mk (F4.out.trans (hb.mono F4.out.size))
    have GE := Aside0.mk hb
    have z1 : (e1 != e1) = false := by simp
    have hml : (l.map conv).length = l.length := List.length_map ..
    have z2 : ((l.length : Int) != (l.length : Int)) = false := by simp
    rw [hml] at C4 LC4
    clear hb B4 F4
    go_wp2_with (fail)
    have D2 := Aside0.mk (Kd.C_below C2.out FE.out)
    have D4 := Aside0.mk (Kd.C_below C4.out GE.out)
    have BT := Aside0.mk (BA.out.trans (BE.out.mono BA.out.size))
    clear C2 C4 FE GE BE XA BA CA LX hml
    go_loopg [9] (l.length + 1) (fun kq v9 w' => ∃ (j : Nat), v9 = .int .i64 (j : Int) ∧ Aside0 (j + kq = l.length + 1 ∧ j ≤ l.length) ∧ Aside0 (Below w5.heap.size w5 w'))
    case atStart => exact ⟨0, rfl, ⟨by omega, by omega⟩, ⟨Below.refl _ _⟩⟩
    case round =>
      obtain ⟨j, rfl, HJ, HB⟩ := hrel
      cases gk with
      | zero => have := HJ.out; omega
      | succ k1 =>
        by_cases hj : j < l.length
        · have hlt : ((j : Int) < (l.length : Int)) = True := eq_true (by omega)
          obtain ⟨ad, rfl, h0, h1, h2, h3, h4⟩ := at_T65 (Kd.C_below D2.out HB.out) (j : Int) (by omega) (by omega)
          obtain ⟨bd, rfl, g0, g1, g2, g3, g4⟩ := at_T64 (Kd.C_below D4.out HB.out) (j : Int) (by omega) (by omega)
          have hx : rd_T64 (l.map conv) (j : Int) = conv (rd_T65 l (j : Int)) := by
            unfold rd_T64 rd_T65
            rw [Int.toNat_natCast, List.getD_eq_getElem?_getD, List.getD_eq_getElem?_getD, List.getElem?_map, List.getElem?_eq_getElem hj]
            rfl
          rw [hx] at g0 g1 g2 g3 g4
          rw [Int.toNat_natCast] at h0 h1 h2 h3 h4 g0 g1 g2 g3 g4
          generalize rd_T65 l (j : Int) = x at h0 h1 h2 h3 h4 g0 g1 g2 g3 g4
          simp only [conv] at g0 g1 g2 g3 g4
          have y0 : (x.f0 == x.f0) = true := by simp
          have y1 : (x.f1 == x.f1) = true := by simp
          have y2 : (x.f2 == x.f2) = true := by simp
          have y3 : (x.f3 == x.f3) = true := by simp
          have y4 : (x.f4.toList == x.f4.toList) = true := by simp
          clear hx
          go_upto_region 10 with (fail)
          go_quiet (fail)
          go_wp2
          go_roundg k1
          case measure => have := HJ.out; omega
          case rel => exact ⟨j + 1, by have := HJ.out; have := HLB.out; rw [w1 j (by omega)], ⟨by have := HJ.out; omega, by omega⟩, ⟨pw_below_drewN HB.out _⟩⟩
        · have hlt : ((j : Int) < (l.length : Int)) = False := eq_false (by omega)
          go_wp2
          go_ret
          exact ⟨rfl, BT.out.trans (HB.out.mono BT.out.size)⟩

  · rw [if_neg hz] at hwi
    subst hwi
    have hz1 : (3000 < (d.size : Int)) = False := eq_false hz
    have eXA_0 := (blk_cell XA.out 0).trans rfl
    have eXA_1 := (blk_cell XA.out 1).trans rfl
    have eXA_2 := (blk_cell XA.out 2).trans rfl
    have eXA_3 := (blk_cell XA.out 3).trans rfl
    go_wp2_with (fail)
    generalize w.alloc (.cells #[.int .i64 a, .int .i64 b, .slice A ms.length c, .string d] 24 (0, 0)) = wA at XA BA CA ⊢
    have LX := Aside0.mk (blk_lt XA.out)
    refine (shot_Chunks.calls k1 a b A c ms d wi l e1 _ CA.out HCC.out H1.out).mono ?_
    rintro e w2 ⟨v, rfl, hR, hb⟩
    obtain ⟨A2, c2, rfl, hlc, hC2⟩ := Kd.R_reads hR
    have B2 := Aside0.mk hb
    have C2 := Aside0.mk hC2
    have LC2 := Aside0.mk hlc
    have X2 := Aside0.mk ((hb.block _ LX.out).trans XA.out)
    clear hR hb hC2 hlc eXA_0 eXA_1 eXA_2 eXA_3
    have eX2_0 := (blk_cell X2.out 0).trans rfl
    have eX2_1 := (blk_cell X2.out 1).trans rfl
    have eX2_2 := (blk_cell X2.out 2).trans rfl
    have eX2_3 := (blk_cell X2.out 3).trans rfl
    go_wp2_with (fail)
    refine (ref_calls a b A ms.length c d _).mono ?_
    rintro e w3 ⟨rfl, hb⟩
    have B3 := Aside0.mk (B2.out.trans (hb.mono B2.out.size))
    have F3 := Aside0.mk hb
    clear hb X2 eX2_0 eX2_1 eX2_2 eX2_3
    go_wp2_with (fail)
    refine (stowageref07_Chunks.calls k2 a b A c ms d wi (l.map conv) e1 _ (Kd.C_below CA.out B3.out) HCC.out H2.out).mono ?_
    rintro e w4 ⟨v, rfl, hR, hb⟩
    obtain ⟨A4, c4, rfl, hlc, hC4⟩ := Kd.R_reads hR
    have B4 := Aside0.mk (B3.out.trans (hb.mono B3.out.size))
    have F4 := Aside0.mk (F3.out.trans (hb.mono F3.out.size))
    have C4 := Aside0.mk hC4
    have LC4 := Aside0.mk hlc
    clear hR hb hC4 hlc B3 F3
    go_wp2_with (fail)
    refine (awk_calls _).mono ?_
    rintro e w5 ⟨rfl, hb⟩
    have BE := Aside0.mk (B4.out.trans (hb.mono B4.out.size))
    have FE := Aside0.mk (F4.out.trans (hb.mono F4.out.size))
    have GE := Aside0.mk hb
    have z1 : (e1 != e1) = false := by simp
    have hml : (l.map conv).length = l.length := List.length_map ..
    have z2 : ((l.length : Int) != (l.length : Int)) = false := by simp
    rw [hml] at C4 LC4
    clear hb B4 F4
    go_wp2_with (fail)
    have D2 := Aside0.mk (Kd.C_below C2.out FE.out)
    have D4 := Aside0.mk (Kd.C_below C4.out GE.out)
    have BT := Aside0.mk (BA.out.trans (BE.out.mono BA.out.size))
    clear C2 C4 FE GE BE XA BA CA LX hml
    go_loopg [9] (l.length + 1) (fun kq v9 w' => ∃ (j : Nat), v9 = .int .i64 (j : Int) ∧ Aside0 (j + kq = l.length + 1 ∧ j ≤ l.length) ∧ Aside0 (Below w5.heap.size w5 w'))
    case atStart => exact ⟨0, rfl, ⟨by omega, by omega⟩, ⟨Below.refl _ _⟩⟩
    case round =>
      obtain ⟨j, rfl, HJ, HB⟩ := hrel
      cases gk with
      | zero => have := HJ.out; omega
      | succ k1 =>
        by_cases hj : j < l.length
        · have hlt : ((j : Int) < (l.length : Int)) = True := eq_true (by omega)
          obtain ⟨ad, rfl, h0, h1, h2, h3, h4⟩ := at_T65 (Kd.C_below D2.out HB.out) (j : Int) (by omega) (by omega)
          obtain ⟨bd, rfl, g0, g1, g2, g3, g4⟩ := at_T64 (Kd.C_below D4.out HB.out) (j : Int) (by omega) (by omega)
          have hx : rd_T64 (l.map conv) (j : Int) = conv (rd_T65 l (j : Int)) := by
            unfold rd_T64 rd_T65
            rw [Int.toNat_natCast, List.getD_eq_getElem?_getD, List.getD_eq_getElem?_getD, List.getElem?_map, List.getElem?_eq_getElem hj]
            rfl
          rw [hx] at g0 g1 g2 g3 g4
          rw [Int.toNat_natCast] at h0 h1 h2 h3 h4 g0 g1 g2 g3 g4
          generalize rd_T65 l (j : Int) = x at h0 h1 h2 h3 h4 g0 g1 g2 g3 g4
          simp only [conv] at g0 g1 g2 g3 g4
          have y0 : (x.f0 == x.f0) = true := by simp
          have y1 : (x.f1 == x.f1) = true := by simp
          have y2 : (x.f2 == x.f2) = true := by simp
          have y3 : (x.f3 == x.f3) = true := by simp
          have y4 : (x.f4.toList == x.f4.toList) = true := by simp
          clear hx
          go_upto_region 10 with (fail)
          go_quiet (fail)
          go_wp2
          go_roundg k1
          case measure => have := HJ.out; omega
          case rel => exact ⟨j + 1, by have := HJ.out; have := HLB.out; rw [w1 j (by omega)], ⟨by have := HJ.out; omega, by omega⟩, ⟨pw_below_drewN HB.out _⟩⟩
        · have hlt : ((j : Int) < (l.length : Int)) = False := eq_false (by omega)
          go_wp2
          go_ret
          exact ⟨rfl, BT.out.trans (HB.out.mono BT.out.size)⟩
theorem w_ShotChunks (W : World) (cs0 : Array Value) (a0 : S24) (K0 : k24.K W a0 cs0.toList) (g0 : ((Lit.int .i64 a0.f0).wf = true ∧ ((Lit.int .i64 a0.f1).wf = true ∧ ((a0.f2.length * 8 ≤ 140737488351232 ∧ ∀ y0 ∈ a0.f2, (Lit.int .i64 y0).wf = true) ∧ a0.f3.size ≤ 140737488351232)))) (a1 : Int) (g1 : (Lit.int .i64 a1).wf = true) :
    Calls Try.prog 7 #[.agg cs0, .int .i64 a1] W fun e w' => e = .returned (.bool true) ∧ Below W.heap.size W w' := by
  obtain ⟨A, c, rfl, hl, hC⟩ := k24_agg K0
  exact walkShotChunks W A c a0.f0 a0.f1 a0.f2 a0.f3 hC hl a1 (by have := g1; simp [Lit.wf] at this; omega)
end Go.Proofs.Ythjfofgcikfepaa.Q
