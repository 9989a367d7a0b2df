/- ShotGathers answers true at every input. -/
import Derived.Outline
import Derived.StillTailTactics
import Derived.Deep.AppendLies
import Derived.Test.YthjfofgcikfepaaShJ
namespace Go.Proofs.Ythjfofgcikfepaa.Q
open Go.Maps Go.WideShapes Go.WideMaps Go.RowKit Go.Proofs.YthjfofgcikfepaaW.PrintWords Go.Proofs.YthjfofgcikfepaaW.PrintLast Go.Proofs.YthjfofgcikfepaaW.PrintMore
set_option linter.unusedVariables false
set_option linter.unusedSimpArgs false
set_option maxHeartbeats 10000000
set_option maxRecDepth 100000
theorem bcell {W w1 : World} (hb : Below W.heap.size W w1) : (∀ b o, b < W.heap.size → w1.cell? ⟨b, o, none⟩ = W.cell? ⟨b, o, none⟩) ∧ (∀ b o, b < W.heap.size → w1.frozen? ⟨b, o, none⟩ = W.frozen? ⟨b, o, none⟩) :=
  ⟨fun b o h => hb.cell (p := ⟨b, o, none⟩) h, fun b o h => hb.frozen (p := ⟨b, o, none⟩) h⟩
theorem alloc2 (w : World) (a b : Obj) : ((w.alloc a).alloc b).heap[w.heap.size]? = some a ∧ ((w.alloc a).alloc b).heap[w.heap.size + 1]? = some b ∧ Below w.heap.size w ((w.alloc a).alloc b) :=
  ⟨(Below.heap_alloc (w.alloc a) b w.heap.size (by rw [alloc_size]; omega)).trans (heap_alloc_new w a), by rw [← alloc_size w a]; exact heap_alloc_new _ _, below_alloc (below_alloc (Below.refl _ _) _) _⟩
abbrev st4 (w : World) (m : Nat) (v0 v1 v2 v3 : Value) : World := (((w.setCell ⟨m, 0, none⟩ v0).setCell ⟨m, 1, none⟩ v1).setCell ⟨m, 2, none⟩ v2).setCell ⟨m, 3, none⟩ v3
theorem st4_size (w : World) (m : Nat) (v0 v1 v2 v3 : Value) : (st4 w m v0 v1 v2 v3).heap.size = w.heap.size := by simp only [st4, World.setCell, Array.size_modify]
theorem st4_below {w0 w : World} {base m : Nat} (h : Below base w0 w) (hb : base ≤ m) (v0 v1 v2 v3 : Value) : Below base w0 (st4 w m v0 v1 v2 v3) := (((h.setCell (p := ⟨m, 0, none⟩) hb _).setCell (p := ⟨m, 1, none⟩) hb _).setCell (p := ⟨m, 2, none⟩) hb _).setCell (p := ⟨m, 3, none⟩) hb _
/-- two structs of four cells laid in new blocks, and a row that a call made -/
structure Laid9 (w5 wc : World) (m9 m10 : Nat) (o9 o10 : Obj) (v : Value) (r3 : List Int) : Prop where
  h9 : wc.heap[m9]? = some o9
  h10 : wc.heap[m10]? = some o10
  bel : Below w5.heap.size w5 wc
  row : Kd.R (Kd.int .i64) 3 wc 0 (fun _ => True) v r3
theorem laid_aa {w5 W w6 : World} {v : Value} {r3 : List Int} (hB : Below w5.heap.size w5 w6) (hR : Kd.R (Kd.int .i64) 3 w6 W.heap.size (fun _ => True) v r3) (a b : Obj) :
    Laid9 w5 ((w6.alloc a).alloc b) w6.heap.size (w6.heap.size + 1) a b v r3 ∧ Laid9 w5 ((w6.alloc a).alloc b) (w6.heap.size + 1) w6.heap.size b a v r3 := by
  obtain ⟨h1, h2, h3⟩ := alloc2 w6 a b
  have hr := Kd.R_lower (Kd.R_below hR h3) (Nat.zero_le _)
  exact ⟨⟨h1, h2, below_step hB h3, hr⟩, ⟨h2, h1, below_step hB h3, hr⟩⟩
theorem laid_sa {w5 W w6 : World} {v : Value} {r3 : List Int} {m : Nat} {t : TypeId} {c0 c1 c2 c3 : Value} (hB : Below w5.heap.size w5 w6) (hR : Kd.R (Kd.int .i64) 3 w6 W.heap.size (fun _ => True) v r3) (hm : w6.heap[m]? = some (.cells #[c0, c1, c2, c3] t (0, 0))) (h5 : w5.heap.size ≤ m) (hmW : m < W.heap.size) (v0 v1 v2 v3 : Value) (b : Obj) :
    Laid9 w5 ((st4 w6 m v0 v1 v2 v3).alloc b) m w6.heap.size (.cells #[v0, v1, v2, v3] t (0, 0)) b v r3 ∧ Laid9 w5 ((st4 w6 m v0 v1 v2 v3).alloc b) w6.heap.size m b (.cells #[v0, v1, v2, v3] t (0, 0)) v r3 := by
  have hs := st4_size w6 m v0 v1 v2 v3
  have hlt := blk_lt hm
  have h1 : ((st4 w6 m v0 v1 v2 v3).alloc b).heap[m]? = some (.cells #[v0, v1, v2, v3] t (0, 0)) := (Below.heap_alloc _ b m (by rw [hs]; exact hlt)).trans (blk4 hm v0 v1 v2 v3)
  have h2 : ((st4 w6 m v0 v1 v2 v3).alloc b).heap[w6.heap.size]? = some b := by rw [← hs]; exact heap_alloc_new _ _
  have h3 : Below w5.heap.size w5 ((st4 w6 m v0 v1 v2 v3).alloc b) := below_alloc (st4_below hB h5 _ _ _ _) b
  have hr : Kd.R (Kd.int .i64) 3 ((st4 w6 m v0 v1 v2 v3).alloc b) 0 (fun _ => True) v r3 := by
    refine Kd.R_mono (Kd.R_lower (Kd.R_step (Kd.R_bound hR) (fun k hk hlt => ?_)) (Nat.zero_le _)) (fun _ _ => trivial)
    refine (Below.heap_alloc _ b k (by rw [hs]; exact hk.2.2.1)).trans (far4 _ _ _ _ _ _ k ?_)
    have := hk.2.1
    omega
  exact ⟨⟨h1, h2, h3, hr⟩, ⟨h2, h1, h3, hr⟩⟩
theorem laid_ss {w5 W w6 : World} {v : Value} {r3 : List Int} {m n : Nat} {t t' : TypeId} {c0 c1 c2 c3 d0 d1 d2 d3 : Value} (hB : Below w5.heap.size w5 w6) (hR : Kd.R (Kd.int .i64) 3 w6 W.heap.size (fun _ => True) v r3) (hm : w6.heap[m]? = some (.cells #[c0, c1, c2, c3] t (0, 0))) (hn : w6.heap[n]? = some (.cells #[d0, d1, d2, d3] t' (0, 0))) (hmn : m ≠ n) (h5 : w5.heap.size ≤ m) (h6 : w5.heap.size ≤ n) (hmW : m < W.heap.size) (hnW : n < W.heap.size) (v0 v1 v2 v3 u0 u1 u2 u3 : Value) :
    Laid9 w5 (st4 (st4 w6 m v0 v1 v2 v3) n u0 u1 u2 u3) m n (.cells #[v0, v1, v2, v3] t (0, 0)) (.cells #[u0, u1, u2, u3] t' (0, 0)) v r3 ∧ Laid9 w5 (st4 (st4 w6 m v0 v1 v2 v3) n u0 u1 u2 u3) n m (.cells #[u0, u1, u2, u3] t' (0, 0)) (.cells #[v0, v1, v2, v3] t (0, 0)) v r3 := by
  have h1 := (far4 (st4 w6 m v0 v1 v2 v3) n u0 u1 u2 u3 m hmn).trans (blk4 hm v0 v1 v2 v3)
  have h2 := blk4 ((far4 w6 m v0 v1 v2 v3 n (Ne.symm hmn)).trans hn) u0 u1 u2 u3
  have h3 : Below w5.heap.size w5 (st4 (st4 w6 m v0 v1 v2 v3) n u0 u1 u2 u3) := st4_below (st4_below hB h5 _ _ _ _) h6 _ _ _ _
  have hr : Kd.R (Kd.int .i64) 3 (st4 (st4 w6 m v0 v1 v2 v3) n u0 u1 u2 u3) 0 (fun _ => True) v r3 := by
    refine Kd.R_mono (Kd.R_lower (Kd.R_step (Kd.R_bound hR) (fun k hk hlt => ?_)) (Nat.zero_le _)) (fun _ _ => trivial)
    refine (far4 _ _ _ _ _ _ k ?_).trans (far4 _ _ _ _ _ _ k ?_)
    all_goals (have := hk.2.1; omega)
  exact ⟨⟨h1, h2, h3, hr⟩, ⟨h2, h1, h3, hr⟩⟩
theorem lt_al (w : World) (a : Obj) : w.heap.size < (w.alloc a).drew.heap.size := by
  show w.heap.size < (w.alloc a).heap.size
  rw [alloc_size]; omega
theorem lt_al2 (w : World) (a b : Obj) : w.heap.size < ((w.alloc a).alloc b).drew.heap.size := by
  show w.heap.size < ((w.alloc a).alloc b).heap.size
  rw [alloc_size, alloc_size]; omega
theorem lt_al3 (w : World) (a b : Obj) : w.heap.size + 1 < ((w.alloc a).alloc b).drew.heap.size := by
  show w.heap.size + 1 < ((w.alloc a).alloc b).heap.size
  rw [alloc_size, alloc_size]; omega
theorem walkShotGathers (w : World) (A : Option Addr) (c : Nat) (l : List S65) (hC : Kd.C k65 w A l.length l) (hc : l.length ≤ c) (hl : l.length ≤ 1000000000000000000) (hs : ∀ y ∈ l, y.f4.size ≤ 140737488351232) :
    Calls Try.prog 8 #[.slice A l.length c] w fun e w' => e = .returned (.bool true) ∧ Below w.heap.size w w' := by
  have hu := Try.underlying24
  have hu2 := Try.underlying30
  have hu3 := Try.underlying65
  have hu4 := Try.underlying70
  have hu5 := Try.underlying64
  have HC := Aside0.mk hC
  have HCC := Aside0.mk hc
  have HL := Aside0.mk hl
  have HS := Aside0.mk hs
  clear hC hc hl hs
  go_enter Try.func8, Try.ntmps8
  go_wp2_with (fail)
  refine (newg_calls _).mono ?_
  rintro e w1 ⟨g, rfl, hG, hgl, hb⟩
  have B1 := Aside0.mk hb
  have G1 := Aside0.mk hG
  have LG := Aside0.mk hgl
  clear hb hG hgl
  go_upto_region 3 with (fail)
  obtain ⟨q, hq⟩ : ∃ q, q = w1.heap.size := ⟨_, rfl⟩
  have b2 : Below w1.heap.size w1 (w1.alloc (.cells #[.bool false, .int .i64 0, .int .i64 0, .string ⟨#[]⟩] 70 (0, 0))) := below_alloc (Below.refl _ _) _
  have B2 := Aside0.mk (below_step B1.out b2)
  have M2 : Aside0 ((w1.alloc (.cells #[.bool false, .int .i64 0, .int .i64 0, .string ⟨#[]⟩] 70 (0, 0))).heap[q]? = some (.cells #[.bool false, .int .i64 0, .int .i64 0, .string ⟨#[]⟩] 70 (0, 0))) := ⟨by rw [hq]; exact heap_alloc_new _ _⟩
  have G2 := Aside0.mk (G1.out.below b2)
  have LQ : Aside0 (g < q) := ⟨by rw [hq]; exact G1.out.lt⟩
  rw [← hq]
  clear b2 B1 G1 hq
  generalize w1.alloc (.cells #[.bool false, .int .i64 0, .int .i64 0, .string ⟨#[]⟩] 70 (0, 0)) = w2 at B2 M2 G2 ⊢
  go_wp2_with (fail)
  refine (awk_calls _).mono ?_
  rintro e w3 ⟨rfl, hb⟩
  have B3 := Aside0.mk (below_step B2.out hb)
  have M3 := Aside0.mk (blk_below M2.out hb)
  have G3 := Aside0.mk (G2.out.below hb)
  clear hb B2 M2 G2
  go_wp2_with (fail)
  have B0 := Aside0.mk (Below.refl g w3)
  go_loopg [5] 201 (fun kq v5 w' => ∃ (j : Nat) (b : Bool) (i t : Int) (T : ByteArray), v5 = .int .i64 (j : Int) ∧ Aside0 (j + kq = 201 ∧ j ≤ 200) ∧ Aside0 (IsG w' g b i t T) ∧ Aside0 (w'.heap[q]? = some (.cells #[.bool b, .int .i64 i, .int .i64 t, .string T] 70 (0, 0))) ∧ Aside0 (Below g w3 w'))
  case atStart => exact ⟨0, false, 0, 0, ⟨#[]⟩, rfl, ⟨by omega, by omega⟩, G3, M3, B0⟩
  case round =>
    obtain ⟨j, b, i, t, T, rfl, HJ, HG, HM, HB⟩ := hrel
    cases gk with
    | zero => have := HJ.out; omega
    | succ k1 =>
      by_cases hj : (j : Int) < (l.length : Int)
      · by_cases hj2 : (j : Int) < 200
        · have hlt : ((j : Int) < (l.length : Int)) = True := eq_true hj
          have hlt2 : ((j : Int) < 200) = True := eq_true hj2
          have HJJ : Aside0 (j < l.length ∧ j < 200) := ⟨by omega⟩
          have BW : Aside0 (Below w.heap.size w wr) := ⟨B3.out.trans (HB.out.mono LG.out)⟩
          obtain ⟨ad, rfl, h0, h1, h2, h3, h4⟩ := at_T65 (Kd.C_below HC.out BW.out) (j : Int) (by omega) (by omega)
          rw [Int.toNat_natCast] at h0 h1 h2 h3 h4
          have hxs : (rd_T65 l (j : Int)).f4.size ≤ 140737488351232 := by
            unfold rd_T65
            rw [Int.toNat_natCast, List.getD_eq_getElem?_getD, List.getElem?_eq_getElem HJJ.out.1]
            exact HS.out _ (List.getElem_mem _)
          obtain ⟨x, hxe⟩ : ∃ x, x = rd_T65 l (j : Int) := ⟨_, rfl⟩
          rw [← hxe] at h0 h1 h2 h3 h4 hxs
          have HXE := Aside0.mk hxe
          have HX := Aside0.mk hxs
          clear hj hj2 hxs hxe
          go_wp2_with (fail)
          refine (take_calls HG.out x HX.out).mono ?_
          rintro e w4 ⟨v, rfl, hR, hG, hK⟩
          have hlen := takeK_len b i t T x
          have HRT := Aside0.mk (fun (w : World) => rtake_calls (w := w) (b := b) (i := i) (t := t) HG.out.1 x HX.out)
          obtain ⟨p, hp⟩ : ∃ p, p = takeK b i t T x := ⟨_, rfl⟩
          rw [← hp] at hR hG hlen HRT ⊢
          obtain ⟨⟨b', i', t', T'⟩, ⟨r1, r2, r3, r4⟩, is', at'⟩ := p
          dsimp only at hR hG hlen HRT ⊢
          obtain ⟨Av, cv, rfl, hlv, hCv⟩ := Kd.R_reads hR
          have hR0 := hR
          have hlow := hK.low HG.out.lt
          have HM4 : Aside0 (w4.heap[q]? = some (.cells #[.bool b, .int .i64 i, .int .i64 t, .string T] 70 (0, 0))) := ⟨(hK.block q (blk_lt HM.out) (by have := LQ.out; omega) (fun _ cs e => by rw [HM.out] at e; injection e with e; injection e with _ e _; exact absurd e (by decide))).trans HM.out⟩
          obtain ⟨w5, hw5⟩ : ∃ w5, w5 = w4.alloc (.cells #[.int .i64 r1, .int .i64 r2, .slice Av r3.length cv, .string r4] 24 (0, 0)) := ⟨_, rfl⟩
          have b5 : Below w4.heap.size w4 w5 := by rw [hw5]; exact below_alloc (Below.refl _ _) _
          have X5 : Aside0 (w5.heap[w4.heap.size]? = some (.cells #[.int .i64 r1, .int .i64 r2, .slice Av r3.length cv, .string r4] 24 (0, 0))) := ⟨by rw [hw5]; exact heap_alloc_new _ _⟩
          have G5 := Aside0.mk (hG.below b5)
          have M5 := Aside0.mk (blk_below HM4.out b5)
          have B5 : Aside0 (Below g w3 w5) := ⟨(HB.out.trans hlow).trans (b5.mono (by have := hG.lt; omega))⟩
          have RV := Aside0.mk (Kd.R_mono (Kd.R_lower (Kd.R_below hR0 b5) (Nat.zero_le _)) (fun _ _ => trivial : ∀ k, _ → True))
          have LV := Aside0.mk hlv
          have HLN := Aside0.mk hlen
          have BW5 : Aside0 (Below w.heap.size w w5) := ⟨B3.out.trans (B5.out.mono LG.out)⟩
          obtain ⟨ad', e', g0, g1, g2, g3, g4⟩ := at_T65 (Kd.C_below HC.out BW5.out) (j : Int) (by have := HJJ.out; omega) (by have := HJJ.out; omega)
          injection e' with e'
          subst e'
          rw [Int.toNat_natCast, ← HXE.out] at g0 g1 g2 g3 g4
          have hq4 : q < w4.heap.size := blk_lt HM4.out
          have LQ4 := Aside0.mk hq4
          clear hR0 hR hG hK hlv hCv hlow hlen b5 HM4 HG HM HB BW hq4 h0 h1 h2 h3 h4 hp
          go_upto_region 9 with (fail)
          rw [← hw5]
          clear hw5
          go_cut [9, 10, 11, 12] (fun u9 u10 u11 u12 wc => ∃ (m9 m10 : Nat) (A6 : Option Addr) (c6 : Nat), u9 = .pointer (some ⟨m9, 0, none⟩) ∧ u10 = .pointer (some ⟨m10, 0, none⟩) ∧ u11 = .bool is' ∧ u12 = .int .i64 at' ∧ Aside0 (r3.length ≤ c6) ∧ Aside0 (Laid9 w5 wc m9 m10 (.cells #[.bool b', .int .i64 i', .int .i64 t', .string T'] 70 (0, 0)) (.cells #[.int .i64 r1, .int .i64 r2, .slice A6 r3.length c6, .string r4] 30 (0, 0)) (.slice A6 r3.length c6) r3))
          case first =>
            rename_i J1 K1 hJ1 hK1
            have HSk : Aside0 (∀ w', Below w5.heap.size w5 w' → w'.cell? ⟨q, 0, none⟩ = some (.bool b) ∧ w'.cell? ⟨q, 1, none⟩ = some (.int .i64 i) ∧ w'.cell? ⟨q, 2, none⟩ = some (.int .i64 t) ∧ w'.cell? ⟨q, 3, none⟩ = some (.string T) ∧ w'.cell? (ad.add (j * 5)) = some (.int .i64 x.f0) ∧ w'.cell? ⟨(ad.add (j * 5)).block, (ad.add (j * 5)).off + 1, none⟩ = some (.int .i64 x.f1) ∧ w'.cell? ⟨(ad.add (j * 5)).block, (ad.add (j * 5)).off + 2, none⟩ = some (.int .i64 x.f2) ∧ w'.cell? ⟨(ad.add (j * 5)).block, (ad.add (j * 5)).off + 3, none⟩ = some (.bool x.f3) ∧ w'.cell? ⟨(ad.add (j * 5)).block, (ad.add (j * 5)).off + 4, none⟩ = some (.string x.f4)) := ⟨fun w' hb => by
              obtain ⟨ad', e', g0, g1, g2, g3, g4⟩ := at_T65 (Kd.C_below HC.out (BW5.out.trans (hb.mono BW5.out.size))) (j : Int) (by have := HJJ.out; omega) (by have := HJJ.out; omega)
              injection e' with e'
              subst e'
              rw [Int.toNat_natCast, ← HXE.out] at g0 g1 g2 g3 g4
              exact ⟨(blk_cell (blk_below M5.out hb) 0).trans rfl, (blk_cell (blk_below M5.out hb) 1).trans rfl, (blk_cell (blk_below M5.out hb) 2).trans rfl, (blk_cell (blk_below M5.out hb) 3).trans rfl, g0, g1, g2, g3, g4⟩⟩
            go_region_held3 (fun w' => w'.cell? ⟨q, 0, none⟩ = some (.bool b) ∧ w'.cell? ⟨q, 1, none⟩ = some (.int .i64 i) ∧ w'.cell? ⟨q, 2, none⟩ = some (.int .i64 t) ∧ w'.cell? ⟨q, 3, none⟩ = some (.string T) ∧ w'.cell? (ad.add (j * 5)) = some (.int .i64 x.f0) ∧ w'.cell? ⟨(ad.add (j * 5)).block, (ad.add (j * 5)).off + 1, none⟩ = some (.int .i64 x.f1) ∧ w'.cell? ⟨(ad.add (j * 5)).block, (ad.add (j * 5)).off + 2, none⟩ = some (.int .i64 x.f2) ∧ w'.cell? ⟨(ad.add (j * 5)).block, (ad.add (j * 5)).off + 3, none⟩ = some (.bool x.f3) ∧ w'.cell? ⟨(ad.add (j * 5)).block, (ad.add (j * 5)).off + 4, none⟩ = some (.string x.f4)) ((refine HSk.out _ ?_; (repeat (first | (with_reducible exact BB.out) | (with_reducible exact Below.refl _ _) | (with_reducible refine below_drew1 ?_) | (with_reducible refine below_alloc ?_ _) | ((with_reducible refine Below.setCell ?_ ?_ _); rotate_left; dsimp only; (first | (with_reducible exact Nat.le_refl _) | (with_reducible exact Nat.le_succ _) | (with_reducible exact hz0.out) | (with_reducible exact Nat.le_succ_of_le hz0.out))))))) (((go_at_call 34; refine (HRT.out _).mono ?_; rintro e w6 ⟨v6, rfl, hR6, hb6⟩; obtain ⟨A6, c6, rfl, hlv6, hCv6⟩ := Kd.R_reads hR6; have HR6 := Aside0.mk hR6; have HB6 := Aside0.mk hb6; clear hR6; obtain ⟨hc6, hf6⟩ := bcell hb6; have BB : Aside0 (Below w5.heap.size w5 w6) := ⟨by (with_reducible refine below_step ?_ hb6); (repeat (first | (with_reducible exact Below.refl _ _) | (with_reducible refine below_drew1 ?_) | (with_reducible refine below_alloc ?_ _)))⟩; have hz0 : Aside0 (w5.heap.size ≤ w6.heap.size) := ⟨BB.out.size⟩; (try (have hz6 : w5.heap.size + 1 < w6.heap.size := by (have h := hb6.size; simp at h; omega))); (try (have hz7 : w5.heap.size < w6.heap.size := by (have h := hb6.size; simp at h; omega))); clear hb6)))
            · refine hK1 _ _ (Met.intro (hJ1 _ _ ?_))
              (repeat apply Exists.intro)
              refine ⟨?rel, rfl⟩
              case rel => exact ⟨_, _, A6, c6, rfl, rfl, rfl, rfl, ⟨hlv6⟩, ⟨(laid_aa BB.out HR6.out _ _).1⟩⟩
            · refine hK1 _ _ (Met.intro (hJ1 _ _ ?_))
              (repeat apply Exists.intro)
              refine ⟨?rel, rfl⟩
              case rel => exact ⟨_, _, A6, c6, rfl, rfl, rfl, rfl, ⟨hlv6⟩, ⟨(laid_aa BB.out HR6.out _ _).2⟩⟩
            · refine hK1 _ _ (Met.intro (hJ1 _ _ ?_))
              (repeat apply Exists.intro)
              refine ⟨?rel, rfl⟩
              case rel => exact ⟨_, _, A6, c6, rfl, rfl, rfl, rfl, ⟨hlv6⟩, ⟨(laid_sa BB.out HR6.out ((HB6.out.block _ (lt_al _ _)).trans (heap_alloc_new w5 _)) (Nat.le_refl _) (lt_al _ _) _ _ _ _ _).1⟩⟩
            · refine hK1 _ _ (Met.intro (hJ1 _ _ ?_))
              (repeat apply Exists.intro)
              refine ⟨?rel, rfl⟩
              case rel => exact ⟨_, _, A6, c6, rfl, rfl, rfl, rfl, ⟨hlv6⟩, ⟨(laid_ss BB.out HR6.out ((HB6.out.block _ (lt_al2 _ _ _)).trans (alloc2 w5 _ _).1) ((HB6.out.block _ (lt_al3 _ _ _)).trans (alloc2 w5 _ _).2.1) (by show w5.heap.size ≠ w5.heap.size + 1; omega) (Nat.le_refl _) (Nat.le_succ _) (lt_al2 _ _ _) (lt_al3 _ _ _) _ _ _ _ _ _ _ _).1⟩⟩
            · refine hK1 _ _ (Met.intro (hJ1 _ _ ?_))
              (repeat apply Exists.intro)
              refine ⟨?rel, rfl⟩
              case rel => exact ⟨_, _, A6, c6, rfl, rfl, rfl, rfl, ⟨hlv6⟩, ⟨(laid_sa BB.out HR6.out ((HB6.out.block _ (lt_al _ _)).trans (heap_alloc_new w5 _)) (Nat.le_refl _) (lt_al _ _) _ _ _ _ _).2⟩⟩
            · refine hK1 _ _ (Met.intro (hJ1 _ _ ?_))
              (repeat apply Exists.intro)
              refine ⟨?rel, rfl⟩
              case rel => exact ⟨_, _, A6, c6, rfl, rfl, rfl, rfl, ⟨hlv6⟩, ⟨(laid_ss BB.out HR6.out ((HB6.out.block _ (lt_al3 _ _ _)).trans (alloc2 w5 _ _).2.1) ((HB6.out.block _ (lt_al2 _ _ _)).trans (alloc2 w5 _ _).1) (by show w5.heap.size + 1 ≠ w5.heap.size; omega) (Nat.le_succ _) (Nat.le_refl _) (lt_al3 _ _ _) (lt_al2 _ _ _) _ _ _ _ _ _ _ _).1⟩⟩
          case rest =>
            obtain ⟨m9, m10, A6, c6, rfl, rfl, rfl, rfl, LV6, LD⟩ := hcut
            have MQ := Aside0.mk (blk_below M5.out LD.out.bel)
            have X9 := Aside0.mk (blk_below X5.out LD.out.bel)
            have M9 := Aside0.mk LD.out.h9
            have M10 := Aside0.mk LD.out.h10
            have G9 := Aside0.mk (G5.out.below LD.out.bel)
            have RV9 := Aside0.mk (Kd.R_below RV.out LD.out.bel)
            have RW9 := Aside0.mk LD.out.row
            have B9 : Aside0 (Below g w3 wc) := ⟨B5.out.trans (LD.out.bel.mono (by have := G5.out.lt; omega))⟩
            clear LD M5 X5 G5 B5 BW5 RV
            have hn1 : m10 ≠ q := by
              rintro rfl
              have h := M10.out
              rw [MQ.out] at h
              injection h with h
              injection h with _ h _
              exact absurd h (by decide)
            have N1 := Aside0.mk hn1
            have N2 : Aside0 (w4.heap.size ≠ q) := ⟨by have := LQ4.out; omega⟩
            clear hn1
            have eM9_0 := (blk_cell M9.out 0).trans rfl
            have eM9_1 := (blk_cell M9.out 1).trans rfl
            have eM9_2 := (blk_cell M9.out 2).trans rfl
            have eM9_3 := (blk_cell M9.out 3).trans rfl
            have eMQ_0 := (blk_cell MQ.out 0).trans rfl
            have eMQ_1 := (blk_cell MQ.out 1).trans rfl
            have eMQ_2 := (blk_cell MQ.out 2).trans rfl
            have eMQ_3 := (blk_cell MQ.out 3).trans rfl
            have fMQ_0 := blk_frozen MQ.out 0
            have fMQ_1 := blk_frozen MQ.out 1
            have fMQ_2 := blk_frozen MQ.out 2
            have fMQ_3 := blk_frozen MQ.out 3
            go_upto_region 11 with (fail)
            have MD : Aside0 ((st4 wc q (.bool b') (.int .i64 i') (.int .i64 t') (.string T')).heap[q]? = some (.cells #[.bool b', .int .i64 i', .int .i64 t', .string T'] 70 (0, 0))) := ⟨blk4 MQ.out _ _ _ _⟩
            have XD : Aside0 ((st4 wc q (.bool b') (.int .i64 i') (.int .i64 t') (.string T')).heap[w4.heap.size]? = some (.cells #[.int .i64 r1, .int .i64 r2, .slice Av r3.length cv, .string r4] 24 (0, 0))) := Aside0.mk ((far4 wc q (.bool b') (.int .i64 i') (.int .i64 t') (.string T') _ N2.out).trans X9.out)
            have YD : Aside0 ((st4 wc q (.bool b') (.int .i64 i') (.int .i64 t') (.string T')).heap[m10]? = some (.cells #[.int .i64 r1, .int .i64 r2, .slice A6 r3.length c6, .string r4] 30 (0, 0))) := Aside0.mk ((far4 wc q (.bool b') (.int .i64 i') (.int .i64 t') (.string T') _ N1.out).trans M10.out)
            have GD : Aside0 (IsG (st4 wc q (.bool b') (.int .i64 i') (.int .i64 t') (.string T')) g b' i' t' T') := Aside0.mk (G9.out.far MQ.out (by decide) (by decide) (.bool b') (.int .i64 i') (.int .i64 t') (.string T'))
            have BD := Aside0.mk (st4_below B9.out (by have := LQ.out; omega : g ≤ q) (.bool b') (.int .i64 i') (.int .i64 t') (.string T'))
            have hne : ∀ k, (∃ p, p ∈ (3 : Nat) :: (Kd.int .i64).E ∧ ∃ cells, wc.heap[k]? = some (.cells cells p (0, 0))) → k ≠ q := fun k ht => typed_ne ht MQ.out (by decide)
            have RVD := Aside0.mk (R_keepT RV9.out (w1 := st4 wc q (.bool b') (.int .i64 i') (.int .i64 t') (.string T')) (fun k _ _ ht => far4 _ _ _ _ _ _ k (hne k ht)))
            have RWD := Aside0.mk (R_keepT RW9.out (w1 := st4 wc q (.bool b') (.int .i64 i') (.int .i64 t') (.string T')) (fun k _ _ ht => far4 _ _ _ _ _ _ k (hne k ht)))
            clear hne MQ X9 M9 M10 G9 RV9 RW9 B9 eM9_0 eM9_1 eM9_2 eM9_3 eMQ_0 eMQ_1 eMQ_2 eMQ_3 fMQ_0 fMQ_1 fMQ_2 fMQ_3
            have fold : (((wc.setCell ⟨q, 0, none⟩ (.bool b')).setCell ⟨q, 1, none⟩ (.int .i64 i')).setCell ⟨q, 2, none⟩ (.int .i64 t')).setCell ⟨q, 3, none⟩ (.string T') = st4 wc q (.bool b') (.int .i64 i') (.int .i64 t') (.string T') := rfl
            rw [fold]
            clear fold
            generalize st4 wc q (.bool b') (.int .i64 i') (.int .i64 t') (.string T') = wd at MD XD YD GD BD RVD RWD ⊢
            obtain ⟨Ax, cx, ex, hlx, hCx⟩ := Kd.R_reads RVD.out
            injection ex with ex1 _ ex2
            subst ex1 ex2
            have CD := Aside0.mk hCx
            obtain ⟨Ay, cy, ey, hly, hCy⟩ := Kd.R_reads RWD.out
            injection ey with ey1 _ ey2
            subst ey1 ey2
            have C6 := Aside0.mk hCy
            obtain ⟨k4, hk4⟩ := (same_ev r1 r2 r3 r4 r1 r2 r3 r4 HLN.out).rounds
            rw [sameS_refl] at hk4
            have HSM := Aside0.mk hk4
            have XH_0 := Aside0.mk (blk_drew XD.out)
            have MH_0 := Aside0.mk (blk_drew YD.out)
            have BH_0 : Aside0 (Below wd.heap.size wd wd.drew) := ⟨below_drew1 (Below.refl _ _)⟩
            have zb : (is' != is') = false := by simp
            have za : (at' != at') = false := by simp
            clear hlx hCx hly hCy hk4 RVD RWD XD YD
            refine start_ (n := 15) (S := (fun w' => w'.cell? ⟨w4.heap.size, 0, none⟩ = some (.int .i64 r1) ∧ w'.cell? ⟨w4.heap.size, 1, none⟩ = some (.int .i64 r2) ∧ w'.cell? ⟨w4.heap.size, 2, none⟩ = some (.slice Av r3.length cv) ∧ w'.cell? ⟨w4.heap.size, 3, none⟩ = some (.string r4) ∧ w'.cell? ⟨m10, 0, none⟩ = some (.int .i64 r1) ∧ w'.cell? ⟨m10, 1, none⟩ = some (.int .i64 r2) ∧ w'.cell? ⟨m10, 2, none⟩ = some (.slice A6 r3.length c6) ∧ w'.cell? ⟨m10, 3, none⟩ = some (.string r4))) (ds := []) #[false, false, false, false, false, false, false, false, false, false, false, false, false, false, false] (by kernel_rfl) rfl rfl ⟨(blk_cell XH_0.out 0).trans rfl, (blk_cell XH_0.out 1).trans rfl, (blk_cell XH_0.out 2).trans rfl, (blk_cell XH_0.out 3).trans rfl, (blk_cell MH_0.out 0).trans rfl, (blk_cell MH_0.out 1).trans rfl, (blk_cell MH_0.out 2).trans rfl, (blk_cell MH_0.out 3).trans rfl⟩ (fun hHeld => ?_)
            refine pure_ (i := 0) (N := some 57) (v := ?_) (a' := ?_) #[true, false, false, false, false, false, false, false, false, false, false, false, false, false, false] rfl rfl (by kernel_rfl) (fun _ _ _ h => h) (Or.inl ⟨by rfl, ?_⟩) ?_ ?_
            rotate_left
            · intro w'
              go_simp
              with_reducible rfl
            rotate_left
            · simp only [Act.put, List.setIfInBounds_toArray, List.set_cons_zero, List.set_cons_succ]
              rfl
            refine pure_ (i := 1) (N := some 58) (v := ?_) (a' := ?_) #[true, true, false, false, false, false, false, false, false, false, false, false, false, false, false] rfl rfl (by kernel_rfl) (fun _ _ _ h => h) (Or.inl ⟨by rfl, ?_⟩) ?_ ?_
            rotate_left
            · intro w'
              go_simp
              with_reducible rfl
            rotate_left
            · simp only [Act.put, List.setIfInBounds_toArray, List.set_cons_zero, List.set_cons_succ]
              rfl
            refine pure_ (i := 2) (N := some 59) (v := ?_) (a' := ?_) #[true, true, true, false, false, false, false, false, false, false, false, false, false, false, false] rfl rfl (by kernel_rfl) (fun _ _ _ h => h) (Or.inl ⟨by rfl, ?_⟩) ?_ ?_
            rotate_left
            · intro w'
              go_simp
              with_reducible rfl
            rotate_left
            · simp only [Act.put, List.setIfInBounds_toArray, List.set_cons_zero, List.set_cons_succ]
              rfl
            refine pure_ (i := 3) (N := some 60) (v := ?_) (a' := ?_) #[true, true, true, true, false, false, false, false, false, false, false, false, false, false, false] rfl rfl (by kernel_rfl) (fun _ _ _ h => h) (Or.inl ⟨by rfl, ?_⟩) ?_ ?_
            rotate_left
            · intro w'
              go_simp
              with_reducible rfl
            rotate_left
            · simp only [Act.put, List.setIfInBounds_toArray, List.set_cons_zero, List.set_cons_succ]
              rfl
            refine pure_ (i := 4) (N := some 61) (v := ?_) (a' := ?_) #[true, true, true, true, true, false, false, false, false, false, false, false, false, false, false] rfl rfl (by kernel_rfl) (fun _ _ _ h => h) (Or.inl ⟨by rfl, ?_⟩) ?_ ?_
            rotate_left
            · intro w'
              go_simp
              with_reducible rfl
            rotate_left
            · simp only [Act.put, List.setIfInBounds_toArray, List.set_cons_zero, List.set_cons_succ]
              rfl
            refine pure_ (i := 5) (N := some 62) (v := ?_) (a' := ?_) #[true, true, true, true, true, true, false, false, false, false, false, false, false, false, false] rfl rfl (by kernel_rfl) (fun _ _ _ h => h) (Or.inl ⟨by rfl, ?_⟩) ?_ ?_
            rotate_left
            · intro w'
              go_simp
              with_reducible rfl
            rotate_left
            · simp only [Act.put, List.setIfInBounds_toArray, List.set_cons_zero, List.set_cons_succ]
              rfl
            refine pure_ (i := 6) (N := some 63) (v := ?_) (a' := ?_) #[true, true, true, true, true, true, true, false, false, false, false, false, false, false, false] rfl rfl (by kernel_rfl) (fun _ _ _ h => h) (Or.inl ⟨by rfl, ?_⟩) ?_ ?_
            rotate_left
            · intro w'
              go_simp
              with_reducible rfl
            rotate_left
            · simp only [Act.put, List.setIfInBounds_toArray, List.set_cons_zero, List.set_cons_succ]
              rfl
            refine pure_ (i := 7) (N := some 64) (v := ?_) (a' := ?_) #[true, true, true, true, true, true, true, true, false, false, false, false, false, false, false] rfl rfl (by kernel_rfl) (fun _ _ _ h => h) (Or.inl ⟨by rfl, ?_⟩) ?_ ?_
            rotate_left
            · intro w'
              go_simp
              with_reducible rfl
            rotate_left
            · simp only [Act.put, List.setIfInBounds_toArray, List.set_cons_zero, List.set_cons_succ]
              rfl
            refine pure_ (i := 8) (N := some 65) (v := ?_) (a' := ?_) #[true, true, true, true, true, true, true, true, true, false, false, false, false, false, false] rfl rfl (by kernel_rfl) (fun _ _ _ h => h) (Or.inl ⟨by rfl, ?_⟩) ?_ ?_
            rotate_left
            · intro w'
              go_simp
              with_reducible rfl
            rotate_left
            · simp only [Act.put, List.setIfInBounds_toArray, List.set_cons_zero, List.set_cons_succ]
              rfl
            refine take_ (i := 9) (N := some 66) (v := ?_) (a' := ?_) #[true, true, true, true, true, true, true, true, true, true, false, false, false, false, false] rfl rfl (by kernel_rfl) (fun _ _ _ h => h) (Or.inl ⟨by rfl, ?_⟩) (by first | exact hHeld | assumption) ?_ ?_
            rotate_left
            · rintro w' ⟨s0, s1, s2, s3, s4, s5, s6, s7⟩
              go_simp
              with_reducible rfl
            rotate_left
            · simp only [Act.put, List.setIfInBounds_toArray, List.set_cons_zero, List.set_cons_succ]
              rfl
            refine take_ (i := 11) (N := some 68) (v := ?_) (a' := ?_) #[true, true, true, true, true, true, true, true, true, true, false, true, false, false, false] rfl rfl (by kernel_rfl) (fun _ _ _ h => h) (Or.inl ⟨by rfl, ?_⟩) (by first | exact hHeld | assumption) ?_ ?_
            rotate_left
            · rintro w' ⟨s0, s1, s2, s3, s4, s5, s6, s7⟩
              go_simp
              with_reducible rfl
            rotate_left
            · simp only [Act.put, List.setIfInBounds_toArray, List.set_cons_zero, List.set_cons_succ]
              rfl
            refine one_ (i := 10) (N := some 67) #[true, true, true, true, true, true, true, true, true, true, true, true, false, false, false] rfl rfl (by kernel_rfl) (by decide) (fun K hK => ?_)
            refine call_ 13 #[.agg #[.int .i64 r1, .int .i64 r2, .slice Av r3.length cv, .string r4]] (by rfl) rfl (by first | (go_simp; done) | (go_simp; rfl)) ?_
            refine (ref_calls r1 r2 Av r3.length cv r4 wd.drew).mono ?_
            rintro e wh1 ⟨rfl, hbh0⟩
            have XH_1 := Aside0.mk (blk_below XH_0.out hbh0)
            have MH_1 := Aside0.mk (blk_below MH_0.out hbh0)
            have BH_1 := Aside0.mk (below_step BH_0.out hbh0)
            clear hbh0
            refine ⟨_, rfl, hK.out _ _ ⟨(blk_cell XH_1.out 0).trans rfl, (blk_cell XH_1.out 1).trans rfl, (blk_cell XH_1.out 2).trans rfl, (blk_cell XH_1.out 3).trans rfl, (blk_cell MH_1.out 0).trans rfl, (blk_cell MH_1.out 1).trans rfl, (blk_cell MH_1.out 2).trans rfl, (blk_cell MH_1.out 3).trans rfl⟩ (fun hHeld => ?_)⟩
            clear hK K
            refine norm_ (a' := ?_) ?_ ?_
            rotate_left
            · show Act.put _ (some 67) _ = _
              simp only [Act.put, List.setIfInBounds_toArray, List.set_cons_zero, List.set_cons_succ]
              rfl
            refine one_ (i := 12) (N := some 69) #[true, true, true, true, true, true, true, true, true, true, true, true, true, false, false] rfl rfl (by kernel_rfl) (by decide) (fun K hK => ?_)
            refine call_ 19 #[.agg #[.int .i64 r1, .int .i64 r2, .slice Av r3.length cv, .string r4], .agg #[.int .i64 r1, .int .i64 r2, .slice A6 r3.length c6, .string r4]] (by rfl) rfl (by first | (go_simp; done) | (go_simp; rfl)) ?_
            refine (stowageref07_Same.calls k4 r1 r2 Av cv r3 r4 r1 r2 A6 c6 r3 r4 true wh1 (Kd.C_below CD.out BH_1.out) LV.out (Kd.C_below C6.out BH_1.out) LV6.out HSM.out).mono ?_
            rintro e wh2 ⟨rfl, hbh1⟩
            have XH_2 := Aside0.mk (blk_below XH_1.out hbh1)
            have MH_2 := Aside0.mk (blk_below MH_1.out hbh1)
            have BH_2 := Aside0.mk (below_step BH_1.out hbh1)
            clear hbh1
            refine ⟨_, rfl, hK.out _ _ ⟨(blk_cell XH_2.out 0).trans rfl, (blk_cell XH_2.out 1).trans rfl, (blk_cell XH_2.out 2).trans rfl, (blk_cell XH_2.out 3).trans rfl, (blk_cell MH_2.out 0).trans rfl, (blk_cell MH_2.out 1).trans rfl, (blk_cell MH_2.out 2).trans rfl, (blk_cell MH_2.out 3).trans rfl⟩ (fun hHeld => ?_)⟩
            clear hK K
            refine norm_ (a' := ?_) ?_ ?_
            rotate_left
            · show Act.put _ (some 69) _ = _
              simp only [Act.put, List.setIfInBounds_toArray, List.set_cons_zero, List.set_cons_succ]
              rfl
            refine pure_ (i := 13) (N := some 70) (v := ?_) (a' := ?_) #[true, true, true, true, true, true, true, true, true, true, true, true, true, true, false] rfl rfl (by kernel_rfl) (fun _ _ _ h => h) (Or.inl ⟨by rfl, ?_⟩) ?_ ?_
            rotate_left
            · intro w'
              go_simp
              with_reducible rfl
            rotate_left
            · simp only [Act.put, List.setIfInBounds_toArray, List.set_cons_zero, List.set_cons_succ]
              rfl
            refine pure_ (i := 14) (N := some 71) (v := ?_) (a' := ?_) #[true, true, true, true, true, true, true, true, true, true, true, true, true, true, true] rfl rfl (by kernel_rfl) (fun _ _ _ h => h) (Or.inl ⟨by rfl, ?_⟩) ?_ ?_
            rotate_left
            · intro w'
              go_simp
              with_reducible rfl
            rotate_left
            · simp only [Act.put, List.setIfInBounds_toArray, List.set_cons_zero, List.set_cons_succ]
              rfl
            refine done_ (by kernel_rfl) ?_
            clear hHeld
            have GE := Aside0.mk (GD.out.below BH_2.out)
            have ME := Aside0.mk (blk_below MD.out BH_2.out)
            have BE : Aside0 (Below g w3 wh2) := ⟨BD.out.trans (BH_2.out.mono (by have := GD.out.lt; omega))⟩
            go_wp2
            go_roundg k1
            case measure => have := HJ.out; omega
            case rel => exact ⟨j + 1, b', i', t', T', by have := HJJ.out; rw [w1n j (by omega)], ⟨by have := HJ.out; omega, by have := HJJ.out; omega⟩, GE, ME, BE⟩
        · have hlt : ((j : Int) < (l.length : Int)) = True := eq_true hj
          have hlt2 : ((j : Int) < 200) = False := eq_false hj2
          clear hj hj2
          go_wp2_with (fail)
          refine (take_nil _ 0 0 0 true ⟨#[]⟩).mono ?_
          rintro e w9 ⟨rfl, hb⟩
          have BE := Aside0.mk (below_step (B3.out.trans (HB.out.mono LG.out)) hb)
          clear hb
          go_wp2
          go_ret
          exact ⟨rfl, BE.out.trans ((below_alloc (Below.refl _ _) _).mono BE.out.size)⟩
      · have hlt : ((j : Int) < (l.length : Int)) = False := eq_false hj
        clear hj
        go_wp2_with (fail)
        refine (take_nil _ 0 0 0 true ⟨#[]⟩).mono ?_
        rintro e w9 ⟨rfl, hb⟩
        have BE := Aside0.mk (below_step (B3.out.trans (HB.out.mono LG.out)) hb)
        clear hb
        go_wp2
        go_ret
        exact ⟨rfl, BE.out.trans ((below_alloc (Below.refl _ _) _).mono BE.out.size)⟩
theorem w_ShotGathers (W : World) (A0 : Option Addr) (c0 : Nat) (a0 : List S65) (l0 : a0.length ≤ c0) (C0 : Kd.C k65 W A0 a0.length a0) (g0 : (a0.length * 48 ≤ 140737488351232 ∧ ∀ y0 ∈ a0, ((Lit.int .i64 y0.f0).wf = true ∧ ((Lit.int .i64 y0.f1).wf = true ∧ ((Lit.int .i64 y0.f2).wf = true ∧ (True ∧ y0.f4.size ≤ 140737488351232)))))) :
    Calls Try.prog 8 #[.slice A0 a0.length c0] W fun e w' => e = .returned (.bool true) ∧ Below W.heap.size W w' :=
  walkShotGathers W A0 c0 a0 C0 l0 (by have := g0.1; omega) (fun y hy => (g0.2 y hy).2.2.2.2)
end Go.Proofs.Ythjfofgcikfepaa.Q
