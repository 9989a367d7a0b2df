/- WiresOrder answers true at every input: what is taken from the front comes in order, where nothing is lost or doubled. -/
import Derived.Test.YtodkackgdchocaaTr
namespace Go.Proofs.Ytodkackgdchocaa.Q
open Go.RowKit Go.Proofs.YtodkackgdchocaaW.PrintWords Go.Proofs.YtodkackgdchocaaW.PrintLast Go.Proofs.YtodkackgdchocaaW.PrintMore
set_option linter.unusedVariables false
set_option linter.unusedSimpArgs false
set_option maxHeartbeats 1000000
set_option maxRecDepth 10000
theorem wrapk (x : Int) (h : 0 ≤ x ∧ x ≤ 4200) : wrap64 (x + 1) = x + 1 := by unfold wrap64; omega
theorem drop_cons (l : List ByteArray) (i : Nat) (hi : i < l.length) : l.drop i = l.getD i ⟨#[]⟩ :: l.drop (i + 1) := by
  rw [List.drop_eq_getElem_cons hi, List.getD_eq_getElem?_getD, List.getElem?_eq_getElem hi]
  rfl
theorem strs_elem {W w : World} {A : Option Addr} {l : List ByteArray} (C : Kd.C Kd.string W A l.length l) (hb : Below W.heap.size W w) (i : Nat) (hi : i < l.length) : ∃ ad, A = some ad ∧ w.cell? (ad.add i) = some (.string (l.getD i ⟨#[]⟩)) := by
  obtain ⟨ad, hA, hc⟩ := C.2.2 (by omega)
  obtain ⟨c, hcl, hp, hcc⟩ := hc i _ (List.getElem?_eq_getElem hi)
  obtain rfl : c = [.string l[i]] := hp
  refine ⟨ad, hA, ?_⟩
  have := hcc 0 (.string l[i]) rfl
  have h1 : i * Kd.string.sz + 0 = i := by show i * 1 + 0 = i; omega
  rw [h1] at this
  rw [hb.cell (World.block_lt_of_cell? W _ this), this, List.getD_eq_getElem?_getD, List.getElem?_eq_getElem hi]
  rfl
theorem stowagelaw08_WiresOrder.calls (A : Option Addr) (c : Nat) (l : List ByteArray) (b : Int) (w : World) (C : Kd.C Kd.string w A l.length l) (hc : l.length ≤ c) (hl : l.length * 16 ≤ 140737488351232) :
    Calls Try.prog 4 #[.slice A l.length c, .int .i64 b] w fun e w' => e = .returned (.bool true) ∧ Below w.heap.size w w' := by
  obtain ⟨m, hm⟩ : ∃ m, m = l.length := ⟨_, rfl⟩
  have HC := Aside0.mk C
  have HM := Aside0.mk hm
  have hmc : m ≤ c := by omega
  have hx := md6 b
  rw [← hm]
  clear C hm hc
  by_cases h2 : m ≤ 200
  · have d2 : decide ((200 : Int) < (m : Int)) = false := decide_eq_false (by omega)
    go_enter Try.func4, Try.ntmps4
    go_wp2_with (fail)
    refine (T_New (w0 := w) (bs := []) (Below.refl _ _) (fun q hq => by cases hq)).mono ?_
    rintro e w1 ⟨g, rfl, hT, hg, hb⟩
    have T1 := Aside0.mk hT
    clear hT hg hb
    go_wp2_with (fail)
    refine (stowagelaw08_awake.calls w1).mono ?_
    rintro e w2 ⟨rfl, hb⟩
    have T2 := Aside0.mk (T1.out.below hb)
    clear hb T1
    go_upto_region 5 with (fail)
    go_wp2_with (fail)
    generalize (wrap64 (b.tmod 6 + 6)).tmod 6 = x at hx ⊢
    have hw1 : wrap64 (x + 1) = x + 1 := wrapk x (by omega)
    have HX := Aside0.mk hx
    clear hx
    go_loopg [7] m (fun gg s7 wr => ∃ (i : Nat) (n : NetS), s7 = .int .i64 (i : Int) ∧ i ≤ m ∧ m - i ≤ gg ∧ Aside0 (n.l = (l.take i).map (fun s => (⟨x, x + 1, s⟩ : S60)) ∧ n.cut = List.replicate 49 false) ∧ Aside0 (Tr w wr g n []))
    case atStart => exact ⟨0, net0, rfl, Nat.zero_le _, Nat.le_refl _, ⟨rfl, rfl⟩, T2⟩
    case round =>
      obtain ⟨i, n, rfl, him, hgg, HN, HT⟩ := hrel
      clear T2
      by_cases hlt : i < m
      · have hlz : (i : Int) < (m : Int) := by omega
        have hl0 : (0 : Int) ≤ (i : Int) := by omega
        obtain ⟨ad, hA, hcell⟩ := strs_elem HC.out HT.out.1 i (by rw [← HM.out]; exact hlt)
        subst hA
        obtain ⟨s, hs⟩ : ∃ s, s = l.getD i ⟨#[]⟩ := ⟨_, rfl⟩
        rw [← hs] at hcell
        have HS := Aside0.mk hs
        clear hs
        go_wp2_with (fail)
        refine (T_Send ⟨x, x + 1, s⟩ HT.out).mono ?_
        rw [send_ok n HN.out.2 ⟨x, x + 1, s⟩ (by have := HX.out; show 0 ≤ x ∧ x < 7 ∧ 0 ≤ x + 1 ∧ x + 1 < 7 ∧ x ≠ x + 1; omega) (by rw [HN.out.1, List.length_map, List.length_take]; omega)]
        rintro e w3 ⟨rfl, hT, _⟩
        have T3 := Aside0.mk hT
        clear hT
        go_wp2
        go_roundg (m - (i + 1))
        case measure => omega
        case rel =>
          refine ⟨i + 1, { n with l := n.l ++ [⟨x, x + 1, s⟩], a := wrap64 (n.a + 1) }, by simp, by omega, Nat.le_refl _, ⟨?_, HN.out.2⟩, T3⟩
          show n.l ++ [_] = _
          rw [HN.out.1, List.take_succ_eq_append_getElem (by rw [← HM.out]; exact hlt), List.map_append, HS.out, List.getD_eq_getElem?_getD, List.getElem?_eq_getElem (by rw [← HM.out]; exact hlt)]
          rfl
      · obtain rfl : i = m := by omega
        have hlz : ¬ (i : Int) < (i : Int) := by omega
        go_upto_region 10 with (fail)
        go_wp2_with (fail)
        have hn0 : n.l = (l.drop 0).map (fun s => (⟨x, x + 1, s⟩ : S60)) := by
          rw [HN.out.1, List.take_of_length_le (by rw [HM.out]; exact Nat.le_refl _)]; rfl
        have HN0 := Aside0.mk hn0
        clear hn0 HN
        go_loopg [8] i (fun gg s8 wr => ∃ (j : Nat) (n : NetS), s8 = .int .i64 (j : Int) ∧ j ≤ i ∧ i - j ≤ gg ∧ Aside0 (n.l = (l.drop j).map (fun s => (⟨x, x + 1, s⟩ : S60))) ∧ Aside0 (Tr w wr g n []))
        case atStart => exact ⟨0, n, rfl, Nat.zero_le _, Nat.le_refl _, HN0, HT⟩
        case round =>
          clear hgg
          obtain ⟨j, q, rfl, hjm, hgg, HQ, HR⟩ := hrel
          clear HT HN0
          by_cases hlt2 : j < i
          · have hlz2 : (j : Int) < (i : Int) := by omega
            have hl02 : (0 : Int) ≤ (j : Int) := by omega
            obtain ⟨s, hs⟩ : ∃ s, s = l.getD j ⟨#[]⟩ := ⟨_, rfl⟩
            have hql : q.l = ⟨x, x + 1, s⟩ :: (l.drop (j + 1)).map (fun s => (⟨x, x + 1, s⟩ : S60)) := by
              rw [HQ.out, drop_cons l j (by rw [← HM.out]; exact hlt2), ← hs]; rfl
            have es : q.take 0 = ({ q with l := (l.drop (j + 1)).map (fun s => (⟨x, x + 1, s⟩ : S60)), b := wrap64 (q.b + 1) }, ⟨x, x + 1, s⟩, true) := by
              unfold NetS.take
              rw [if_pos ⟨by omega, by rw [hql]; simp⟩, hql]
              rfl
            have ET := Aside0.mk es
            have HS := Aside0.mk hs
            clear es hql hs
            go_wp2_with (fail)
            refine (T_Take 0 HR.out).mono ?_
            rw [ET.out]
            rintro e w3 ⟨rfl, hT, _⟩
            have T3 := Aside0.mk (hT.alloc (.cells #[.int .i64 x, .int .i64 (x + 1), .string s] 27))
            obtain ⟨ad, hA, hcell⟩ := strs_elem HC.out hT.1 j (by rw [← HM.out]; exact hlt2)
            subst hA
            rw [← HS.out] at hcell
            have hc4 := (World.cell?_alloc_some w3 (ad.add j) (.cells #[.int .i64 x, .int .i64 (x + 1), .string s] 27) (by rw [hcell]; rfl)).trans hcell
            have hb4 := heap_alloc_new w3 (.cells #[.int .i64 x, .int .i64 (x + 1), .string s] 27)
            clear hT hcell
            go_upto_region 14 with (fail)
            generalize w3.alloc (.cells #[.int .i64 x, .int .i64 (x + 1), .string s] 27) = w4 at hc4 hb4 T3 ⊢
            generalize w3.heap.size = gt at hb4 ⊢
            have t0 := (blk_cell hb4 0).trans rfl
            have t1 := (blk_cell hb4 1).trans rfl
            have t2 := (blk_cell hb4 2).trans rfl
            clear hb4
            go_quiet (fail)
            go_wp2
            go_roundg (i - (j + 1))
            case measure => omega
            case rel => exact ⟨j + 1, { q with l := (l.drop (j + 1)).map (fun s => (⟨x, x + 1, s⟩ : S60)), b := wrap64 (q.b + 1) }, by simp, by omega, Nat.le_refl _, ⟨rfl⟩, ⟨T3.out.drewN _⟩⟩
          · obtain rfl : j = i := by omega
            have hlz2 : ¬ (j : Int) < (j : Int) := by omega
            have es : q.take 0 = (q, z60, false) := by
              unfold NetS.take
              rw [if_neg (by rw [HQ.out, List.drop_of_length_le (by rw [HM.out]; exact Nat.le_refl _)]; simp)]
            have ET := Aside0.mk es
            clear es
            go_wp2_with (fail)
            refine (T_Take 0 HR.out).mono ?_
            rw [ET.out]
            rintro e w3 ⟨rfl, hT, _⟩
            have T3 := Aside0.mk hT
            clear hT
            simp only [z60]
            go_wp2
            go_ret
            exact ⟨rfl, (T3.out.alloc _).1⟩
  · have d2 : decide ((200 : Int) < (m : Int)) = true := decide_eq_true (by omega)
    go_enter Try.func4, Try.ntmps4
    go_wp2_with (fail)
    refine (T_New (w0 := w) (bs := []) (Below.refl _ _) (fun q hq => by cases hq)).mono ?_
    rintro e w1 ⟨g, rfl, hT, hg, hb⟩
    have T1 := Aside0.mk hT
    clear hT hg hb
    go_wp2_with (fail)
    refine (stowagelaw08_awake.calls w1).mono ?_
    rintro e w2 ⟨rfl, hb⟩
    have T2 := Aside0.mk (T1.out.below hb)
    clear hb T1
    go_wp2_with (fail)
    refine (stowagelaw08_awake.calls w2).mono ?_
    rintro e w3 ⟨rfl, hb⟩
    go_wp2
    go_ret
    exact ⟨rfl, below_step T2.out.1 hb⟩
end Go.Proofs.Ytodkackgdchocaa.Q
namespace Go.Proofs.Ytodkackgdchocaa.Walks
open Go.RowKit Go.Proofs.Ytodkackgdchocaa.Q Go.Proofs.YtodkackgdchocaaW.PrintWords Go.Proofs.YtodkackgdchocaaW.PrintLast Go.Proofs.YtodkackgdchocaaW.PrintMore
set_option linter.unusedVariables false
theorem WiresOrder (W : World) (A0 : Option Addr) (c0 : Nat) (a0 : (List ByteArray)) (l0 : a0.length ≤ c0) (C0 : Kd.C Kd.string W A0 a0.length a0) (g0 : (a0.length * 16 ≤ 140737488351232 ∧ ∀ y0 ∈ a0, y0.size ≤ 140737488351232)) (a1 : Int) (g1 : (Lit.int .i64 a1).wf = true) :
    Calls Try.prog 4 #[.slice A0 a0.length c0, .int .i64 a1] W fun e w' => e = .returned (.bool true) ∧ Below W.heap.size W w' := stowagelaw08_WiresOrder.calls A0 c0 a0 a1 W C0 l0 g0.1
end Go.Proofs.Ytodkackgdchocaa.Walks
