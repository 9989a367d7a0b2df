/- What the calls of package wires that cut and mend ways do to a net in memory: slices.IndexFunc, slices.DeleteFunc, lose, Cut, Clear, under no further conditions. -/
import Derived.Test.YtodkackgdchocaaNet
import Derived.Shelf.Abstract
namespace Go.Proofs.Ytodkackgdchocaa.Q
open Go.RowKit Go.Proofs.YtodkackgdchocaaW.PrintWords Go.Proofs.YtodkackgdchocaaW.PrintLast Go.Proofs.YtodkackgdchocaaW.PrintMore
set_option linter.unusedVariables false
set_option linter.unusedSimpArgs false
set_option maxHeartbeats 1000000
set_option maxRecDepth 10000
theorem grownBy_below {w w1 w2 : World} {row : Option Nat} (h : w.grownBy w1 row) (hb : Below w1.heap.size w1 w2) : w.grownBy w2 row :=
  ⟨hb.os.trans h.os, hb.tape.trans h.tape, hb.output.trans h.output, Nat.le_trans h.size hb.size, fun k hk hne => (hb.block k (Nat.lt_of_lt_of_le hk h.size)).trans (h.block k hk hne)⟩
theorem grownBy_of_below {w w1 : World} (row : Option Nat) (hb : Below w.heap.size w w1) : w.grownBy w1 row := ⟨hb.os, hb.tape, hb.output, hb.size, fun k hk _ => hb.block k hk⟩
/-- A predicate on packets: what a function value answers in every world in which no block of w but b has turned. -/
def PredOK (w : World) (b : Nat) (f : FuncId) (lb : Array Value) (pred : S60 → Bool) (l : List S60) : Prop :=
  ∀ W x, w.grownBy W (some b) → x ∈ l → Calls Try.prog f (#[.agg #[.int .i64 x.f0, .int .i64 x.f1, .string x.f2]] ++ lb) W fun e w' => e = .returned (.bool (pred x)) ∧ Below W.heap.size W w'
theorem row_elem {w : World} {base b c : Nat} {l : List S60} (h : w.ownsRow base 27 3 (.slice (some ⟨b, 0, none⟩) l.length c) l.length (pks l)) {i : Nat} (hi : i < l.length) : w.cell? ⟨b, i * 3, none⟩ = some (.int .i64 (l.getD i z60).f0) ∧ w.cell? ⟨b, i * 3 + 1, none⟩ = some (.int .i64 (l.getD i z60).f1) ∧ w.cell? ⟨b, i * 3 + 2, none⟩ = some (.string (l.getD i z60).f2) :=
  ⟨(h.cellAt (i * 3) (by omega)).trans ((pks_one l i 0 hi (by omega)).trans rfl), (h.cellAt (i * 3 + 1) (by omega)).trans ((pks_one l i 1 hi (by omega)).trans rfl), (h.cellAt (i * 3 + 2) (by omega)).trans ((pks_one l i 2 hi (by omega)).trans rfl)⟩
theorem getD_mem {l : List S60} {i : Nat} (hi : i < l.length) : l.getD i z60 ∈ l := by
  rw [List.getD_eq_getElem?_getD, List.getElem?_eq_getElem hi]
  exact List.getElem_mem _
theorem api_IndexFunc.calls (base b c : Nat) (l : List S60) (f : FuncId) (lb : Array Value) (pred : S60 → Bool) (eg : ∀ args w, (callFunc f args).run Try.prog w = .ok (.enter f args) w) (w : World) (h : w.ownsRow base 27 3 (.slice (some ⟨b, 0, none⟩) l.length c) l.length (pks l)) (hm : l.length ≤ 4096) (hp : PredOK w b f lb pred l) :
    Calls Try.prog 39 #[.slice (some ⟨b, 0, none⟩) l.length c, .func (.func f) #[] lb] w fun e w' => ∃ r : Int, e = .returned (.int .i64 r) ∧ Below w.heap.size w w' ∧ ((∃ k : Nat, r = k ∧ k < l.length ∧ pred (l.getD k z60) = true ∧ ∀ i, i < k → pred (l.getD i z60) = false) ∨ (r = -1 ∧ ∀ i, i < l.length → pred (l.getD i z60) = false)) := by
  obtain ⟨n, hn⟩ : ∃ n, n = l.length := ⟨_, rfl⟩
  have H := Aside0.mk h
  have HN := Aside0.mk hn
  have HP := Aside0.mk hp
  have hm4 : n ≤ 4096 := by omega
  rw [← hn]
  clear h hn hp hm
  go_enter Try.func39, Try.ntmps39
  go_wp2
  go_loopg [8] n (fun gg s8 wr => ∃ j : Nat, s8 = .int .i64 (j : Int) ∧ j ≤ n ∧ n - j ≤ gg ∧ Aside0 (∀ i, i < j → pred (l.getD i z60) = false) ∧ Aside0 (Below w.heap.size w wr))
  case atStart => exact ⟨0, rfl, Nat.zero_le _, Nat.le_refl _, ⟨fun i hi => absurd hi (Nat.not_lt_zero _)⟩, ⟨Below.refl _ _⟩⟩
  case round =>
    obtain ⟨j, rfl, hjn, hgg, HA, HB⟩ := hrel
    by_cases hlt : j < n
    · have hltz : (j : Int) < (n : Int) := by omega
      have hlt0 : (0 : Int) ≤ (j : Int) := by omega
      obtain ⟨x, hx⟩ : ∃ x, x = l.getD j z60 := ⟨_, rfl⟩
      have hc := row_elem (pw_own_below H.out HB.out) (i := j) (by rw [← HN.out]; exact hlt)
      rw [← hx] at hc
      obtain ⟨hc0, hc1, hc2⟩ := hc
      have hcall := HP.out wr x (grownBy_of_below _ HB.out) (by rw [hx]; exact getD_mem (by rw [← HN.out]; exact hlt))
      have HX := Aside0.mk hx
      clear hx
      cases hq : pred x with
      | true =>
        rw [hq] at hcall
        go_wp2_with (fail)
        refine hcall.mono ?_
        rintro e w' ⟨rfl, hb⟩
        clear hcall
        go_wp2
        go_ret
        exact ⟨_, rfl, below_step HB.out hb, .inl ⟨j, rfl, hlt, by rw [← HX.out]; exact hq, HA.out⟩⟩
      | false =>
        rw [hq] at hcall
        go_wp2_with (fail)
        refine hcall.mono ?_
        rintro e w' ⟨rfl, hb⟩
        have HB' := Aside0.mk (below_step HB.out hb)
        clear hb hcall
        go_wp2
        go_roundg (n - (j + 1))
        case measure => omega
        case rel =>
          refine ⟨j + 1, by simp, by omega, Nat.le_refl _, ⟨fun i hi => ?_⟩, HB'⟩
          rcases Nat.lt_or_ge i j with hi' | hi'
          · exact HA.out i hi'
          · obtain rfl : i = j := by omega
            rw [← HX.out]; exact hq
    · obtain rfl : j = n := by omega
      have hltz : ¬ (j : Int) < (j : Int) := by omega
      go_wp2
      go_ret
      exact ⟨_, rfl, HB.out, .inr ⟨rfl, HA.out⟩⟩
theorem pks_set_cells (l : List S60) (i : Nat) (hi : i < l.length) (x : S60) : (((pks l).set (i * 3) (.int .i64 x.f0)).set (i * 3 + 1) (.int .i64 x.f1)).set (i * 3 + 2) (.string x.f2) = pks (l.set i x) := by
  induction l generalizing i with
  | nil => simp at hi
  | cons p l ih =>
    have hc : pks (p :: l) = pk p ++ pks l := rfl
    cases i with
    | zero => rfl
    | succ i =>
      have hs : pks ((p :: l).set (i + 1) x) = pk p ++ pks (l.set i x) := rfl
      rw [hs, ← ih i (by simpa using hi), hc]
      have hp : (pk p).length = 3 := rfl
      rw [List.set_append_right _ _ (by omega), List.set_append_right _ _ (by omega), List.set_append_right _ _ (by omega), hp, show (i + 1) * 3 - 3 = i * 3 by omega, show (i + 1) * 3 + 1 - 3 = i * 3 + 1 by omega, show (i + 1) * 3 + 2 - 3 = i * 3 + 2 by omega]
/-- A packet is written into a row. -/
theorem row_store {w : World} {base b c : Nat} {l : List S60} (h : w.ownsRow base 27 3 (.slice (some ⟨b, 0, none⟩) l.length c) l.length (pks l)) (i : Nat) (hi : i < l.length) (x : S60) :
    (((w.setCell ⟨b, i * 3, none⟩ (.int .i64 x.f0)).setCell ⟨b, i * 3 + 1, none⟩ (.int .i64 x.f1)).setCell ⟨b, i * 3 + 2, none⟩ (.string x.f2)).ownsRow base 27 3 (.slice (some ⟨b, 0, none⟩) l.length c) l.length (pks (l.set i x)) ∧ w.grownBy (((w.setCell ⟨b, i * 3, none⟩ (.int .i64 x.f0)).setCell ⟨b, i * 3 + 1, none⟩ (.int .i64 x.f1)).setCell ⟨b, i * 3 + 2, none⟩ (.string x.f2)) (some b) := by
  obtain ⟨h1, g1⟩ := h.stored (i * 3) (.int .i64 x.f0)
  obtain ⟨h2, g2⟩ := h1.stored (i * 3 + 1) (.int .i64 x.f1)
  obtain ⟨h3, g3⟩ := h2.stored (i * 3 + 2) (.string x.f2)
  rw [pks_set_cells l i hi x] at h3
  exact ⟨h3, (g1.trans g2).trans g3⟩
theorem take_filter_succ (l : List S60) (q : S60 → Bool) (j : Nat) (hj : j < l.length) : (l.take (j + 1)).filter q = (l.take j).filter q ++ (if q (l.getD j z60) = true then [l.getD j z60] else []) := by
  rw [List.take_succ_eq_append_getElem hj, List.filter_append, List.getD_eq_getElem?_getD, List.getElem?_eq_getElem hj]
  simp only [Option.getD_some]
  congr 1
  by_cases h : q l[j] = true
  · simp [h]
  · simp [h]
theorem take_filter_all (l : List S60) (pred : S60 → Bool) (k : Nat) (hk : k ≤ l.length) (h : ∀ i, i < k → pred (l.getD i z60) = false) : (l.take k).filter (fun x => !pred x) = l.take k := by
  apply List.filter_eq_self.2
  intro x hx
  obtain ⟨i, hi, rfl⟩ := List.getElem_of_mem hx
  rw [List.length_take] at hi
  have := h i (by omega)
  rw [List.getD_eq_getElem?_getD, List.getElem?_eq_getElem (by omega)] at this
  simpa using this
theorem drop_getD {l m : List S60} {j : Nat} (h : l.drop j = m.drop j) : l.getD j z60 = m.getD j z60 := by
  have := congrArg (fun q => q[0]?) h
  simp only [List.getElem?_drop, Nat.add_zero] at this
  rw [List.getD_eq_getElem?_getD, List.getD_eq_getElem?_getD, this]
theorem api_DeleteFunc.calls (base b c : Nat) (l : List S60) (f : FuncId) (lb : Array Value) (pred : S60 → Bool) (eg : ∀ args w, (callFunc f args).run Try.prog w = .ok (.enter f args) w) (w : World) (h : w.ownsRow base 27 3 (.slice (some ⟨b, 0, none⟩) l.length c) l.length (pks l)) (hm : l.length ≤ 4096) (hp : PredOK w b f lb pred l) :
    Calls Try.prog 36 #[.slice (some ⟨b, 0, none⟩) l.length c, .func (.func f) #[] lb] w fun e w' => e = .returned (.slice (some ⟨b, 0, none⟩) (l.filter fun x => !pred x).length c) ∧ w'.ownsRow base 27 3 (.slice (some ⟨b, 0, none⟩) (l.filter fun x => !pred x).length c) (l.filter fun x => !pred x).length (pks (l.filter fun x => !pred x)) ∧ w.grownBy w' (some b) := by
  obtain ⟨n, hn⟩ : ∃ n, n = l.length := ⟨_, rfl⟩
  have hcn : n ≤ c := by rw [hn]; exact own_le h
  have H := Aside0.mk h
  have HN := Aside0.mk hn
  have HP := Aside0.mk hp
  have hm4 : n ≤ 4096 := by omega
  obtain ⟨fl, hfl⟩ : ∃ fl, fl = l.filter fun x => !pred x := ⟨_, rfl⟩
  have HF := Aside0.mk hfl
  have HI := api_IndexFunc.calls base b c l f lb pred eg w h hm hp
  rw [← hfl]
  rw [← hn] at HI ⊢
  clear h hn hp hm hfl
  go_enter Try.func36, Try.ntmps36
  go_wp2_with (fail)
  refine HI.mono ?_
  clear HI
  rintro e w1 ⟨r, rfl, hb1, hr⟩
  have HB1 := Aside0.mk hb1
  clear hb1
  rcases hr with ⟨k, rfl, hk, hpk, hbef⟩ | ⟨rfl, hall⟩
  · have hne : ((k : Int) == -1) = false := beq_eq_false_iff_ne.mpr (by omega)
    have hk4 : k < n := hk
    have HK := Aside0.mk (And.intro hpk hbef)
    clear hk hpk hbef
    go_wp2
    go_loopg [5, 6] n (fun gg s5 s6 wr => ∃ (i j : Nat) (cur : List S60), s5 = .int .i64 (i : Int) ∧ s6 = .int .i64 (j : Int) ∧ i < j ∧ j ≤ n ∧ n - j ≤ gg ∧ Aside0 (cur.length = n ∧ cur.take i = (l.take j).filter (fun x => !pred x) ∧ cur.drop j = l.drop j) ∧ Aside0 (wr.ownsRow base 27 3 (.slice (some ⟨b, 0, none⟩) n c) n (pks cur)) ∧ Aside0 (w.grownBy wr (some b)))
    case atStart =>
      refine ⟨k, k + 1, l, rfl, by first | rfl | (simp; done) | skip, by omega, by omega, by omega, ⟨HN.out.symm, ?_, rfl⟩, ⟨by have := pw_own_below H.out HB1.out; rw [← HN.out] at this; exact this⟩, ⟨grownBy_of_below _ HB1.out⟩⟩
      · rw [take_filter_succ l _ k (by rw [← HN.out]; exact hk4), take_filter_all l pred k (by have := HN.out; omega) HK.out.2, if_neg (by rw [HK.out.1]; simp), List.append_nil]
    case round =>
      obtain ⟨i, j, cur, rfl, rfl, hij, hjn, hgg, HC, HO, HG⟩ := hrel
      by_cases hlt : j < n
      · have hltz : (j : Int) < (n : Int) := by omega
        have hlt0 : (0 : Int) ≤ (j : Int) := by omega
        have hiz : (i : Int) < (n : Int) := by omega
        have hi0 : (0 : Int) ≤ (i : Int) := by omega
        have hrow : Aside0 (wr.ownsRow base 27 3 (.slice (some ⟨b, 0, none⟩) cur.length c) cur.length (pks cur)) := ⟨by rw [HC.out.1]; exact HO.out⟩
        obtain ⟨x, hx⟩ : ∃ x, x = l.getD j z60 := ⟨_, rfl⟩
        obtain ⟨hc0, hc1, hc2⟩ := row_elem hrow.out (i := j) (by rw [HC.out.1]; exact hlt)
        rw [drop_getD HC.out.2.2, ← hx] at hc0 hc1 hc2
        have hcall := HP.out (wr.alloc (.cells #[.int .i64 x.f0, .int .i64 x.f1, .string x.f2] 27)) x (grownBy_below HG.out (below_alloc (Below.refl _ _) _)) (by rw [hx]; exact getD_mem (by rw [← HN.out]; exact hlt))
        have HX := Aside0.mk hx
        have hbl : b < wr.heap.size := World.block_lt_of_cell? wr _ hc0
        clear hx
        have hnext : (l.take (j + 1)).filter (fun x => !pred x) = (l.take j).filter (fun x => !pred x) ++ (if (!pred x) = true then [x] else []) := by
          rw [HX.out]; exact take_filter_succ l (fun x => !pred x) j (by rw [← HN.out]; exact hlt)
        have HNX := Aside0.mk hnext
        clear hnext
        cases hq : pred x with
        | true =>
          rw [hq] at hcall
          go_wp2_with (fail)
          refine hcall.mono ?_
          rintro e w2 ⟨rfl, hb⟩
          have HB2 := Aside0.mk (below_step (below_alloc (Below.refl wr.heap.size wr) _) hb)
          clear hb hcall hc0 hc1 hc2
          go_wp2
          go_roundg (n - (j + 1))
          case measure => omega
          case rel =>
            refine ⟨i, j + 1, cur, rfl, by simp, by omega, by omega, Nat.le_refl _, ⟨HC.out.1, ?_, ?_⟩, ⟨pw_own_below HO.out HB2.out⟩, ⟨grownBy_below HG.out HB2.out⟩⟩
            · rw [HNX.out, HC.out.2.1, hq]; simp
            · have := congrArg (List.drop 1) HC.out.2.2
              simpa [List.drop_drop, Nat.add_comm] using this
        | false =>
          rw [hq] at hcall
          go_wp2_with (fail)
          refine hcall.mono ?_
          rintro e w2 ⟨rfl, hb⟩
          have hrow2 : Aside0 (w2.ownsRow base 27 3 (.slice (some ⟨b, 0, none⟩) cur.length c) cur.length (pks cur)) := ⟨pw_own_below (pw_own_below hrow.out (below_alloc (Below.refl wr.heap.size wr) _)) hb⟩
          have ht2 : Aside0 (w2.heap[wr.heap.size]? = some (.cells #[.int .i64 x.f0, .int .i64 x.f1, .string x.f2] 27 (0, 0))) := ⟨blk_below (heap_alloc_new wr _) hb⟩
          have HB2 := Aside0.mk (below_step (below_alloc (Below.refl wr.heap.size wr) _) hb)
          clear hb hcall hc0 hc1 hc2
          have hcl := HC.out.1
          obtain ⟨hd0, hd1, hd2⟩ := row_elem hrow2.out (i := i) (by omega)
          have hf0 := hrow2.out.frozenAt (i * 3)
          have hf1 := hrow2.out.frozenAt (i * 3 + 1)
          have hf2 := hrow2.out.frozenAt (i * 3 + 2)
          have ht0 : w2.cell? ⟨wr.heap.size, 0, none⟩ = some (.int .i64 x.f0) := (blk_cell ht2.out 0).trans rfl
          have ht1 : w2.cell? ⟨wr.heap.size, 1, none⟩ = some (.int .i64 x.f1) := (blk_cell ht2.out 1).trans rfl
          have ht3 : w2.cell? ⟨wr.heap.size, 2, none⟩ = some (.string x.f2) := (blk_cell ht2.out 2).trans rfl
          generalize (cur.getD i z60).f0 = o0 at hd0
          generalize (cur.getD i z60).f1 = o1 at hd1
          generalize (cur.getD i z60).f2 = o2 at hd2
          clear hcl
          go_wp2
          go_roundg (n - (j + 1))
          case measure => omega
          case rel =>
            obtain ⟨hs1, hs2⟩ := row_store hrow2.out i (by rw [HC.out.1]; omega) x
            refine ⟨i + 1, j + 1, cur.set i x, by simp, by simp, by omega, by omega, Nat.le_refl _, ⟨by simpa using HC.out.1, ?_, ?_⟩, ⟨?_⟩, ⟨(grownBy_below HG.out HB2.out).trans hs2⟩⟩
            · rw [HNX.out, ← HC.out.2.1, hq, List.take_set, List.take_succ_eq_append_getElem (by rw [HC.out.1]; omega), List.set_append_right _ _ (by rw [List.length_take]; omega)]
              simp [List.length_take, Nat.min_eq_left (show i ≤ cur.length by rw [HC.out.1]; omega)]
            · rw [List.drop_set_of_lt (by omega)]
              have := congrArg (List.drop 1) HC.out.2.2
              simpa [List.drop_drop, Nat.add_comm] using this
            · have := hs1
              rw [HC.out.1] at this
              exact this
      · obtain rfl : j = n := by omega
        have hltz : ¬ (j : Int) < (j : Int) := by omega
        have hij' : (i : Int) ≤ (j : Int) := by omega
        have hi0 : (0 : Int) ≤ (i : Int) := by omega
        have hic : (i : Int) ≤ (c : Int) := by omega
        have hci : ¬ (c = i) := by omega
        obtain ⟨vs, hcl⟩ := clear27 wr 0 base b j c i (j - i) _ HO.out (by omega) (c - i)
        go_wp2
        go_ret
        have hfin : fl = cur.take i := by
          rw [HF.out, HC.out.2.1, List.take_of_length_le (by rw [HN.out]; exact Nat.le_refl _)]
        have hfl : fl.length = i := by rw [hfin, List.length_take, HC.out.1]; omega
        have hown : wr.ownsRow base 27 3 (.slice (some ⟨b, 0, none⟩) i c) i (pks fl) := by
          rw [hfin]
          refine own_take ?_ i (by rw [HC.out.1]; omega)
          rw [HC.out.1]; exact HO.out
        obtain ⟨h1, h2⟩ := own_setCells_far vs (i * 3) wr hown (Nat.le_refl _)
        rw [hfl]
        exact ⟨rfl, h1, HG.out.trans h2⟩
  · go_wp2
    go_ret
    have hf : fl = l := by
      rw [HF.out]
      apply List.filter_eq_self.2
      intro x hx
      obtain ⟨i, hi, rfl⟩ := List.getElem_of_mem hx
      have := hall i (by rw [HN.out]; exact hi)
      rw [List.getD_eq_getElem?_getD, List.getElem?_eq_getElem hi] at this
      simpa using this
    rw [hf, HN.out]
    exact ⟨rfl, pw_own_below H.out HB1.out, grownBy_of_below _ HB1.out⟩
theorem api_IndexFunc.nil (f : FuncId) (lb : Array Value) (w : World) :
    Calls Try.prog 39 #[.slice none 0 0, .func (.func f) #[] lb] w fun e w' => e = .returned (.int .i64 (-1)) ∧ w' = w := by
  go_enter Try.func39, Try.ntmps39
  go_wp2
  go_loopg [8] 0 (fun gg s8 wr => s8 = .int .i64 0 ∧ wr = w)
  case atStart => exact ⟨rfl, rfl⟩
  case round =>
    obtain ⟨rfl, rfl⟩ := hrel
    go_wp2
    go_ret
    exact ⟨rfl, rfl⟩
theorem api_DeleteFunc.nil (f : FuncId) (lb : Array Value) (w : World) :
    Calls Try.prog 36 #[.slice none 0 0, .func (.func f) #[] lb] w fun e w' => e = .returned (.slice none 0 0) ∧ w' = w := by
  go_enter Try.func36, Try.ntmps36
  go_wp2_with (fail)
  refine (api_IndexFunc.nil f lb w).mono ?_
  rintro e w1 ⟨rfl, rfl⟩
  go_wp2
  go_ret
  exact ⟨rfl, rfl⟩
/-- slices.DeleteFunc on any row of the call's own, nil too. -/
theorem api_DeleteFunc.any (base : Nat) (v : Value) (l : List S60) (f : FuncId) (lb : Array Value) (pred : S60 → Bool) (eg : ∀ args w, (callFunc f args).run Try.prog w = .ok (.enter f args) w) (w : World) (h : w.ownsRow base 27 3 v l.length (pks l)) (hm : l.length ≤ 4096) (hp : ∀ b, v.ownBlock = some b → PredOK w b f lb pred l) :
    Calls Try.prog 36 #[v, .func (.func f) #[] lb] w fun e w' => ∃ v', e = .returned v' ∧ w'.ownsRow base 27 3 v' (l.filter fun x => !pred x).length (pks (l.filter fun x => !pred x)) ∧ w.grownBy w' v.ownBlock ∧ v'.ownBlock = v.ownBlock := by
  have h0 := h
  rcases h.2 with ⟨rfl, hl⟩ | ⟨b, c, cur, rfl, _⟩
  · obtain rfl : l = [] := List.length_eq_zero_iff.1 hl
    refine (api_DeleteFunc.nil f lb w).mono ?_
    rintro e w' ⟨rfl, rfl⟩
    exact ⟨_, rfl, own_nil _ _ _ _, World.grownBy.refl _ _, rfl⟩
  · refine (api_DeleteFunc.calls base b c l f lb pred eg w h0 hm (hp b rfl)).mono ?_
    rintro e w' ⟨rfl, h1, h2⟩
    exact ⟨_, rfl, h1, h2, rfl⟩
/-- lose, told plainly. -/
def NetS.lose (n : NetS) (pred : S60 → Bool) : NetS := { n with l := n.l.filter fun x => !pred x, c := wrap64 (n.c + ((n.l.length : Int) - ((n.l.filter fun x => !pred x).length : Int))) }
theorem wires_lose.calls (w0 : World) (g : Nat) (v : Value) (n : NetS) (f : FuncId) (lb : Array Value) (pred : S60 → Bool) (eg : ∀ args w, (callFunc f args).run Try.prog w = .ok (.enter f args) w) (w : World) (h : IsNet w w0.heap.size g v n) (hB : Below w0.heap.size w0 w) (hp : ∀ b, v.ownBlock = some b → PredOK w b f lb pred n.l) :
    Calls Try.prog 26 #[.pointer (some ⟨g, 0, none⟩), .func (.func f) #[] lb] w fun e w' => ∃ v', e = .returned (.int .i64 ((n.l.length : Int) - ((n.l.filter fun x => !pred x).length : Int))) ∧ IsNet w' w0.heap.size g v' (n.lose pred) ∧ Below w0.heap.size w0 w' ∧ NetKeep w w' g v v' := by
  obtain ⟨Av, cv, rfl⟩ := own_slice h.row
  have hD := api_DeleteFunc.any w0.heap.size _ n.l f lb pred eg w h.row h.le hp
  obtain ⟨fl, hfl⟩ : ∃ fl, fl = n.l.filter fun x => !pred x := ⟨_, rfl⟩
  have hfle : Aside0 (fl.length ≤ n.l.length) := ⟨by rw [hfl]; exact List.length_filter_le _ _⟩
  have hfok : Aside0 (∀ p ∈ fl, 0 ≤ p.f0 ∧ p.f0 < 7 ∧ 0 ≤ p.f1 ∧ p.f1 < 7) := ⟨fun p hq => by rw [hfl] at hq; exact h.ok p ((List.mem_filter.1 hq).1)⟩
  unfold NetS.lose
  rw [← hfl] at hD ⊢
  have H := Aside0.mk h
  have HB := Aside0.mk hB
  have c00 := cell_v h
  have HD := Aside0.mk hD
  clear h hB hp hD hfl
  go_enter Try.func26, Try.ntmps26
  go_upto_region 2 with (fail)
  go_wp2_with (fail)
  refine HD.out.mono ?_
  rintro e w1 ⟨v1, rfl, hown, hgrow, hown1⟩
  obtain ⟨A2, c2, rfl⟩ := own_slice hown
  have hx0 : Aside0 (w1.heap[g]? = some (.cells (netCells (.slice Av n.l.length cv) n) 56 (0, 0))) := ⟨(hgrow.block _ H.out.lt H.out.ne).trans H.out.blk⟩
  have HO := Aside0.mk hown
  have HG := Aside0.mk hgrow
  have HV := Aside0.mk hown1
  have hcut := Aside0.mk H.out.cl
  have hfr0 := blk_frozen hx0.out 0
  have hcl0 : w1.cell? ⟨g, 0, none⟩ = some (.slice Av n.l.length cv) := (blk_cell hx0.out 0).trans rfl
  clear hown hgrow hown1 c00 HD
  have hsub : IntKind.i64.wrap ((n.l.length : Int) - (fl.length : Int)) = (n.l.length : Int) - (fl.length : Int) := by
    have := H.out.le
    have := hfle.out
    rw [i64_w]; unfold wrap64; omega
  go_upto_region 3 with (fail)
  have hZ : Aside0 ((w1.setCell ⟨g, 0, none⟩ (.slice A2 fl.length c2)).heap[g]? = some (.cells (netCells (.slice A2 fl.length c2) n) 56 (0, 0))) := ⟨blk_put hx0.out 0 _ (netCells_v _ _ n)⟩
  generalize hWz : w1.setCell ⟨g, 0, none⟩ (.slice A2 fl.length c2) = wz at hZ ⊢
  have HW := Aside0.mk hWz
  clear hWz hcl0 hfr0
  have c52 : wz.cell? ⟨g, 52, none⟩ = some (.int .i64 n.c) := cell_c_of hZ.out hcut.out
  have c0 : wz.cell? ⟨g, 0, none⟩ = some (.slice A2 fl.length c2) := (blk_cell hZ.out 0).trans rfl
  refine start_ (n := 15) (S := fun w' => w'.cell? ⟨g, 52, none⟩ = some (.int .i64 n.c) ∧ w'.cell? ⟨g, 0, none⟩ = some (.slice A2 fl.length c2)) (ds := [14]) #[false, false, false, false, false, false, false, false, false, false, false, false, false, false, false] (by kernel_rfl) rfl rfl ⟨c52, c0⟩ (fun hHeld => ?_)
  refine pure_ (i := 0) (N := some 20) (v := ?_) (a' := ?_) #[true, false, false, false, false, false, false, false, false, false, false, false, false, false, false] rfl rfl (by kernel_rfl) (fun _ _ _ h => h) (Or.inl ⟨by rfl, ?_⟩) ?_ ?_
  rotate_left
  · intro w'
    go_simp
    with_reducible rfl
  rotate_left
  · simp only [Act.put, List.setIfInBounds_toArray, List.set_cons_zero, List.set_cons_succ]
    rfl
  refine pure_ (i := 1) (N := some 21) (v := ?_) (a' := ?_) #[true, true, false, false, false, false, false, false, false, false, false, false, false, false, false] rfl rfl (by kernel_rfl) (fun _ _ _ h => h) (Or.inl ⟨by rfl, ?_⟩) ?_ ?_
  rotate_left
  · intro w'
    go_simp
    with_reducible rfl
  rotate_left
  · simp only [Act.put, List.setIfInBounds_toArray, List.set_cons_zero, List.set_cons_succ]
    rfl
  refine pure_ (i := 2) (N := some 22) (v := ?_) (a' := ?_) #[true, true, true, false, false, false, false, false, false, false, false, false, false, false, false] rfl rfl (by kernel_rfl) (fun _ _ _ h => h) (Or.inl ⟨by rfl, ?_⟩) ?_ ?_
  rotate_left
  · intro w'
    go_simp
    with_reducible rfl
  rotate_left
  · simp only [Act.put, List.setIfInBounds_toArray, List.set_cons_zero, List.set_cons_succ]
    rfl
  refine take_ (i := 3) (N := some 23) (v := ?_) (a' := ?_) #[true, true, true, true, false, false, false, false, false, false, false, false, false, false, false] rfl rfl (by kernel_rfl) (fun _ _ _ h => h) (Or.inl ⟨by rfl, ?_⟩) (by first | exact hHeld | assumption) ?_ ?_
  rotate_left
  · rintro w' ⟨s0, s1⟩
    go_simp
    with_reducible rfl
  rotate_left
  · simp only [Act.put, List.setIfInBounds_toArray, List.set_cons_zero, List.set_cons_succ]
    rfl
  refine pure_ (i := 4) (N := some 24) (v := ?_) (a' := ?_) #[true, true, true, true, true, false, false, false, false, false, false, false, false, false, false] rfl rfl (by kernel_rfl) (fun _ _ _ h => h) (Or.inl ⟨by rfl, ?_⟩) ?_ ?_
  rotate_left
  · intro w'
    go_simp
    with_reducible rfl
  rotate_left
  · simp only [Act.put, List.setIfInBounds_toArray, List.set_cons_zero, List.set_cons_succ]
    rfl
  refine pure_ (i := 5) (N := some 25) (v := ?_) (a' := ?_) #[true, true, true, true, true, true, false, false, false, false, false, false, false, false, false] rfl rfl (by kernel_rfl) (fun _ _ _ h => h) (Or.inl ⟨by rfl, ?_⟩) ?_ ?_
  rotate_left
  · intro w'
    go_simp
    with_reducible rfl
  rotate_left
  · simp only [Act.put, List.setIfInBounds_toArray, List.set_cons_zero, List.set_cons_succ]
    rfl
  refine pure_ (i := 6) (N := some 26) (v := ?_) (a' := ?_) #[true, true, true, true, true, true, true, false, false, false, false, false, false, false, false] rfl rfl (by kernel_rfl) (fun _ _ _ h => h) (Or.inl ⟨by rfl, ?_⟩) ?_ ?_
  rotate_left
  · intro w'
    go_simp
    with_reducible rfl
  rotate_left
  · simp only [Act.put, List.setIfInBounds_toArray, List.set_cons_zero, List.set_cons_succ]
    rfl
  refine pure_ (i := 7) (N := some 27) (v := ?_) (a' := ?_) #[true, true, true, true, true, true, true, true, false, false, false, false, false, false, false] rfl rfl (by kernel_rfl) (fun _ _ _ h => h) (Or.inl ⟨by rfl, ?_⟩) ?_ ?_
  rotate_left
  · intro w'
    go_simp
    with_reducible rfl
  rotate_left
  · simp only [Act.put, List.setIfInBounds_toArray, List.set_cons_zero, List.set_cons_succ]
    rfl
  refine take_ (i := 8) (N := some 28) (v := ?_) (a' := ?_) #[true, true, true, true, true, true, true, true, true, false, false, false, false, false, false] rfl rfl (by kernel_rfl) (fun _ _ _ h => h) (Or.inl ⟨by rfl, ?_⟩) (by first | exact hHeld | assumption) ?_ ?_
  rotate_left
  · rintro w' ⟨s0, s1⟩
    go_simp
    with_reducible rfl
  rotate_left
  · simp only [Act.put, List.setIfInBounds_toArray, List.set_cons_zero, List.set_cons_succ]
    rfl
  refine pure_ (i := 9) (N := some 29) (v := ?_) (a' := ?_) #[true, true, true, true, true, true, true, true, true, true, false, false, false, false, false] rfl rfl (by kernel_rfl) (fun _ _ _ h => h) (Or.inl ⟨by rfl, ?_⟩) ?_ ?_
  rotate_left
  · intro w'
    go_simp
    with_reducible rfl
  rotate_left
  · simp only [Act.put, List.setIfInBounds_toArray, List.set_cons_zero, List.set_cons_succ]
    rfl
  refine pure_ (i := 10) (N := some 30) (v := ?_) (a' := ?_) #[true, true, true, true, true, true, true, true, true, true, true, false, false, false, false] rfl rfl (by kernel_rfl) (fun _ _ _ h => h) (Or.inl ⟨by rfl, ?_⟩) ?_ ?_
  rotate_left
  · intro w'
    go_simp
    with_reducible rfl
  rotate_left
  · simp only [Act.put, List.setIfInBounds_toArray, List.set_cons_zero, List.set_cons_succ]
    rfl
  refine pure_ (i := 11) (N := some 31) (v := ?_) (a' := ?_) #[true, true, true, true, true, true, true, true, true, true, true, true, false, false, false] rfl rfl (by kernel_rfl) (fun _ _ _ h => h) (Or.inl ⟨by rfl, ?_⟩) ?_ ?_
  rotate_left
  · intro w'
    go_simp
    with_reducible rfl
  rotate_left
  · simp only [Act.put, List.setIfInBounds_toArray, List.set_cons_zero, List.set_cons_succ]
    rfl
  refine pure_ (i := 12) (N := some 32) (v := ?_) (a' := ?_) #[true, true, true, true, true, true, true, true, true, true, true, true, true, false, false] rfl rfl (by kernel_rfl) (fun _ _ _ h => h) (Or.inl ⟨by rfl, ?_⟩) ?_ ?_
  rotate_left
  · intro w'
    go_simp
    with_reducible rfl
  rotate_left
  · simp only [Act.put, List.setIfInBounds_toArray, List.set_cons_zero, List.set_cons_succ]
    rfl
  refine pure_ (i := 13) (N := some 33) (v := ?_) (a' := ?_) #[true, true, true, true, true, true, true, true, true, true, true, true, true, true, false] rfl rfl (by kernel_rfl) (fun _ _ _ h => h) (Or.inl ⟨by rfl, ?_⟩) ?_ ?_
  rotate_left
  · intro w'
    go_simp
    with_reducible rfl
  rotate_left
  · simp only [Act.put, List.setIfInBounds_toArray, List.set_cons_zero, List.set_cons_succ]
    rfl
  refine last_ (i := 14) (N := none) #[true, true, true, true, true, true, true, true, true, true, true, true, true, true, true] rfl rfl (by kernel_rfl) (by decide) (fun K hK => ?_)
  have hfr := blk_frozen hZ.out 52
  have hcl := cell_c_of hZ.out hcut.out
  refine skip_ (w1 := ?_) (by rfl) rfl ?_ ?_
  rotate_left
  · go_simp
    rfl
  refine hK.out _ _ ?_
  clear hK K
  refine done_ (by kernel_rfl) ?_
  clear hfr hcl hHeld c52 c0
  have c0 : wz.cell? ⟨g, 0, none⟩ = some (.slice A2 fl.length c2) := (blk_cell hZ.out 0).trans rfl
  go_wp2
  go_ret
  refine ⟨.slice A2 fl.length c2, rfl, ?_, ?_, ?_⟩
  · have h1 : IsNet wz w0.heap.size g (.slice A2 fl.length c2) { n with l := fl } := by rw [← HW.out]; exact IsNet.setRow (n := n) H.out.ge hx0.out HO.out hcut.out (Nat.le_trans hfle.out H.out.le) hfok.out
    exact (h1.setC _).drew
  · rw [← HW.out]
    exact (((HB.out.grown HG.out HB.out.size (own_base H.out.row)).setCell H.out.ge _).setCell H.out.ge _).drew
  · rw [← HW.out]
    exact ((((NetKeep.refl w g _).grown HG.out (.inl HV.out)).set _ _).set _ _).drew
theorem cell_cut_ab {w : World} {base g : Nat} {v : Value} {n : NetS} (h : IsNet w base g v n) (a b : Int) (d0 : 0 ≤ a) (d1 : a < 7) (d2 : 0 ≤ b) (d3 : b < 7) : w.cell? ⟨g, 1 + a.toNat * 7 + b.toNat, none⟩ = some (.bool (n.isCut a b)) := by
  rw [show 1 + a.toNat * 7 + b.toNat = 1 + (a.toNat * 7 + b.toNat) by omega]
  exact cell_cut h _ (by omega)
theorem set_cut_ab {w : World} {base g : Nat} {v : Value} {n : NetS} (h : IsNet w base g v n) (a b : Int) (d0 : 0 ≤ a) (d1 : a < 7) (d2 : 0 ≤ b) (d3 : b < 7) (x : Bool) : IsNet (w.setCell ⟨g, 1 + a.toNat * 7 + b.toNat, none⟩ (.bool x)) base g v { n with cut := n.cut.set (a.toNat * 7 + b.toNat) x } := by
  rw [show 1 + a.toNat * 7 + b.toNat = 1 + (a.toNat * 7 + b.toNat) by omega]
  exact h.setCut _ (by omega) x
/-- The function value that Cut hands on: is the packet's way cut? -/
theorem wires_Cut1.calls (base g gb : Nat) (v : Value) (n : NetS) (x : S60) (W : World) (hcut : ∀ i, i < 49 → W.cell? ⟨g, 1 + i, none⟩ = some (.bool (n.cut.getD i false))) (hb : W.cell? ⟨gb, 0, none⟩ = some (.pointer (some ⟨g, 0, none⟩))) (hx : 0 ≤ x.f0 ∧ x.f0 < 7 ∧ 0 ≤ x.f1 ∧ x.f1 < 7) :
    Calls Try.prog 27 #[.agg #[.int .i64 x.f0, .int .i64 x.f1, .string x.f2], .pointer (some ⟨gb, 0, none⟩)] W fun e w' => e = .returned (.bool (n.isCut x.f0 x.f1)) ∧ Below W.heap.size W w' := by
  obtain ⟨d0, d1, d2, d3⟩ := hx
  have hq := hcut (x.f0.toNat * 7 + x.f1.toNat) (by omega)
  rw [show 1 + (x.f0.toNat * 7 + x.f1.toNat) = 1 + x.f0.toNat * 7 + x.f1.toNat by omega, show n.cut.getD (x.f0.toNat * 7 + x.f1.toNat) false = n.isCut x.f0 x.f1 from rfl] at hq
  have hbl : gb < W.heap.size := World.block_lt_of_cell? W _ hb
  have hgl : g < W.heap.size := World.block_lt_of_cell? W _ hq
  generalize n.isCut x.f0 x.f1 = r at hq ⊢
  clear hcut
  go_enter Try.func27, Try.ntmps27
  go_wp2
  go_quiet (fail)
  go_wp2
  go_ret
  exact ⟨rfl, (pw_below_drewN (below_alloc (Below.refl W.heap.size W) _) _)⟩
/-- Cut, told plainly. -/
def NetS.cutAB (n : NetS) (a b : Int) : NetS := { n with cut := (n.cut.set (a.toNat * 7 + b.toNat) true).set (b.toNat * 7 + a.toNat) true }
theorem wires_Cut.calls (w0 : World) (g : Nat) (v : Value) (n : NetS) (a b : Int) (w : World) (h : IsNet w w0.heap.size g v n) (hB : Below w0.heap.size w0 w) (hd : 0 ≤ a ∧ a < 7 ∧ 0 ≤ b ∧ b < 7 ∧ a ≠ b) :
    Calls Try.prog 15 #[.pointer (some ⟨g, 0, none⟩), .int .i64 a, .int .i64 b] w fun e w' => ∃ v', e = .returned (.int .i64 ((n.l.length : Int) - ((n.l.filter fun x => !(n.cutAB a b).isCut x.f0 x.f1).length : Int))) ∧ IsNet w' w0.heap.size g v' ((n.cutAB a b).lose fun x => (n.cutAB a b).isCut x.f0 x.f1) ∧ Below w0.heap.size w0 w' ∧ NetKeep w w' g v v' := by
  have A := Aside0.mk (wires_two.of a b)
  rw [decide_eq_true hd] at A
  obtain ⟨d0, d1, d2, d3, _⟩ := hd
  have H := Aside0.mk h
  have HB := Aside0.mk hB
  have hgl := h.lt
  clear h hB
  go_enter Try.func15, Try.ntmps15
  go_wp2_with (first | (go_at_call 24; (refine (wires_two.calls a b true _ A.out).mono ?_); rintro e w' ⟨rfl, ⟨⟨q, rfl⟩⟩⟩))
  have eW : Aside0 (∃ wy gb, wy = (w.alloc (.cells #[.pointer (some ⟨g, 0, none⟩)] 22)).drewN q ∧ gb = w.heap.size) := ⟨_, _, rfl, rfl⟩
  obtain ⟨wy, gb, hwy, hgb⟩ := eW.out
  rw [← hwy, ← hgb]
  have HY : Aside0 (IsNet wy.drew w0.heap.size g v n) := ⟨by rw [hwy]; exact ((H.out.alloc _).drewN q).drew⟩
  have HBy : Aside0 (Below w0.heap.size w0 wy.drew) := ⟨by rw [hwy]; exact (pw_below_drewN (HB.out.alloc HB.out.size _) q).drew⟩
  have HKy : Aside0 (NetKeep w wy.drew g v v) := ⟨by rw [hwy]; exact (((NetKeep.refl w g v).alloc _).drewN q).drew⟩
  have hby : Aside0 (wy.drew.heap[gb]? = some (.cells #[.pointer (some ⟨g, 0, none⟩)] 22 (0, 0))) := ⟨by rw [hwy, hgb]; exact heap_alloc_new w _⟩
  have hgbg : Aside0 (gb ≠ g) := ⟨by omega⟩
  have hnb : Aside0 (some gb ≠ v.ownBlock) := ⟨fun hh => by have := own_lt H.out.row gb hh.symm; omega⟩
  clear hwy hgb eW hgl A
  have hb0 : wy.drew.cell? ⟨gb, 0, none⟩ = some (.pointer (some ⟨g, 0, none⟩)) := (blk_cell hby.out 0).trans rfl
  refine start_ (n := 16) (S := fun w' => w'.cell? ⟨gb, 0, none⟩ = some (.pointer (some ⟨g, 0, none⟩))) (ds := []) #[false, false, false, false, false, false, false, false, false, false, false, false, false, false, false, false] (by kernel_rfl) rfl rfl hb0 (fun hHeld => ?_)
  clear hb0
  generalize wy.drew = wd at HY HBy HKy hby hHeld ⊢
  refine take_ (i := 0) (N := some 15) (v := ?_) (a' := ?_) #[true, false, false, false, false, false, false, false, false, false, false, false, false, false, false, false] rfl rfl (by kernel_rfl) (fun _ _ _ h => h) (Or.inl ⟨by rfl, ?_⟩) (by first | exact hHeld | assumption) ?_ ?_
  rotate_left
  · rintro w' s0
    go_simp
    with_reducible rfl
  rotate_left
  · simp only [Act.put, List.setIfInBounds_toArray, List.set_cons_zero, List.set_cons_succ]
    rfl
  refine pure_ (i := 1) (N := some 16) (v := ?_) (a' := ?_) #[true, true, false, false, false, false, false, false, false, false, false, false, false, false, false, false] rfl rfl (by kernel_rfl) (fun _ _ _ h => h) (Or.inl ⟨by rfl, ?_⟩) ?_ ?_
  rotate_left
  · intro w'
    go_simp
    with_reducible rfl
  rotate_left
  · simp only [Act.put, List.setIfInBounds_toArray, List.set_cons_zero, List.set_cons_succ]
    rfl
  refine pure_ (i := 2) (N := some 17) (v := ?_) (a' := ?_) #[true, true, true, false, false, false, false, false, false, false, false, false, false, false, false, false] rfl rfl (by kernel_rfl) (fun _ _ _ h => h) (Or.inl ⟨by rfl, ?_⟩) ?_ ?_
  rotate_left
  · intro w'
    go_simp
    with_reducible rfl
  rotate_left
  · simp only [Act.put, List.setIfInBounds_toArray, List.set_cons_zero, List.set_cons_succ]
    rfl
  refine take_ (i := 3) (N := some 18) (v := ?_) (a' := ?_) #[true, true, true, true, false, false, false, false, false, false, false, false, false, false, false, false] rfl rfl (by kernel_rfl) (fun _ _ _ h => h) (Or.inl ⟨by rfl, ?_⟩) (by first | exact hHeld | assumption) ?_ ?_
  rotate_left
  · rintro w' s0
    go_simp
    with_reducible rfl
  rotate_left
  · simp only [Act.put, List.setIfInBounds_toArray, List.set_cons_zero, List.set_cons_succ]
    rfl
  refine pure_ (i := 4) (N := some 19) (v := ?_) (a' := ?_) #[true, true, true, true, true, false, false, false, false, false, false, false, false, false, false, false] rfl rfl (by kernel_rfl) (fun _ _ _ h => h) (Or.inl ⟨by rfl, ?_⟩) ?_ ?_
  rotate_left
  · intro w'
    go_simp
    with_reducible rfl
  rotate_left
  · simp only [Act.put, List.setIfInBounds_toArray, List.set_cons_zero, List.set_cons_succ]
    rfl
  refine pure_ (i := 5) (N := some 20) (v := ?_) (a' := ?_) #[true, true, true, true, true, true, false, false, false, false, false, false, false, false, false, false] rfl rfl (by kernel_rfl) (fun _ _ _ h => h) (Or.inl ⟨by rfl, ?_⟩) ?_ ?_
  rotate_left
  · intro w'
    go_simp
    with_reducible rfl
  rotate_left
  · simp only [Act.put, List.setIfInBounds_toArray, List.set_cons_zero, List.set_cons_succ]
    rfl
  refine pure_ (i := 6) (N := some 21) (v := ?_) (a' := ?_) #[true, true, true, true, true, true, true, false, false, false, false, false, false, false, false, false] rfl rfl (by kernel_rfl) (fun _ _ _ h => h) (Or.inl ⟨by rfl, ?_⟩) ?_ ?_
  rotate_left
  · intro w'
    go_simp
    with_reducible rfl
  rotate_left
  · simp only [Act.put, List.setIfInBounds_toArray, List.set_cons_zero, List.set_cons_succ]
    rfl
  refine pure_ (i := 7) (N := some 22) (v := ?_) (a' := ?_) #[true, true, true, true, true, true, true, true, false, false, false, false, false, false, false, false] rfl rfl (by kernel_rfl) (fun _ _ _ h => h) (Or.inl ⟨by rfl, ?_⟩) ?_ ?_
  rotate_left
  · intro w'
    go_simp
    with_reducible rfl
  rotate_left
  · simp only [Act.put, List.setIfInBounds_toArray, List.set_cons_zero, List.set_cons_succ]
    rfl
  refine pure_ (i := 8) (N := some 23) (v := ?_) (a' := ?_) #[true, true, true, true, true, true, true, true, true, false, false, false, false, false, false, false] rfl rfl (by kernel_rfl) (fun _ _ _ h => h) (Or.inl ⟨by rfl, ?_⟩) ?_ ?_
  rotate_left
  · intro w'
    go_simp
    with_reducible rfl
  rotate_left
  · simp only [Act.put, List.setIfInBounds_toArray, List.set_cons_zero, List.set_cons_succ]
    rfl
  refine pure_ (i := 9) (N := some 24) (v := ?_) (a' := ?_) #[true, true, true, true, true, true, true, true, true, true, false, false, false, false, false, false] rfl rfl (by kernel_rfl) (fun _ _ _ h => h) (Or.inl ⟨by rfl, ?_⟩) ?_ ?_
  rotate_left
  · intro w'
    go_simp
    with_reducible rfl
  rotate_left
  · simp only [Act.put, List.setIfInBounds_toArray, List.set_cons_zero, List.set_cons_succ]
    rfl
  refine pure_ (i := 11) (N := some 25) (v := ?_) (a' := ?_) #[true, true, true, true, true, true, true, true, true, true, false, true, false, false, false, false] rfl rfl (by kernel_rfl) (fun _ _ _ h => h) (Or.inl ⟨by rfl, ?_⟩) ?_ ?_
  rotate_left
  · intro w'
    go_simp
    with_reducible rfl
  rotate_left
  · simp only [Act.put, List.setIfInBounds_toArray, List.set_cons_zero, List.set_cons_succ]
    rfl
  refine pure_ (i := 12) (N := some 26) (v := ?_) (a' := ?_) #[true, true, true, true, true, true, true, true, true, true, false, true, true, false, false, false] rfl rfl (by kernel_rfl) (fun _ _ _ h => h) (Or.inl ⟨by rfl, ?_⟩) ?_ ?_
  rotate_left
  · intro w'
    go_simp
    with_reducible rfl
  rotate_left
  · simp only [Act.put, List.setIfInBounds_toArray, List.set_cons_zero, List.set_cons_succ]
    rfl
  refine pure_ (i := 13) (N := some 27) (v := ?_) (a' := ?_) #[true, true, true, true, true, true, true, true, true, true, false, true, true, true, false, false] rfl rfl (by kernel_rfl) (fun _ _ _ h => h) (Or.inl ⟨by rfl, ?_⟩) ?_ ?_
  rotate_left
  · intro w'
    go_simp
    with_reducible rfl
  rotate_left
  · simp only [Act.put, List.setIfInBounds_toArray, List.set_cons_zero, List.set_cons_succ]
    rfl
  refine one_ (i := 10) (N := none) #[true, true, true, true, true, true, true, true, true, true, true, true, true, true, false, false] rfl rfl (by kernel_rfl) (by decide) (fun K hK => ?_)
  have hf1 := blk_frozen HY.out.blk (1 + a.toNat * 7 + b.toNat)
  have hc1 := cell_cut_ab HY.out a b d0 d1 d2 d3
  refine skip_ (w1 := ?_) (by rfl) rfl ?_ ?_
  rotate_left
  · go_simp
    rfl
  refine hK.out _ _ ?_ (fun hHeld => ?_)
  · exact (blk_cell ((Below.heap_setCell _ _ _ _ hgbg.out).trans hby.out) 0).trans rfl
  clear hK K hf1 hc1
  have HY2 : Aside0 (IsNet (wd.setCell ⟨g, 1 + a.toNat * 7 + b.toNat, none⟩ (.bool true)) w0.heap.size g v { n with cut := n.cut.set (a.toNat * 7 + b.toNat) true }) := ⟨set_cut_ab HY.out a b d0 d1 d2 d3 true⟩
  have HBy2 : Aside0 (Below w0.heap.size w0 (wd.setCell ⟨g, 1 + a.toNat * 7 + b.toNat, none⟩ (.bool true))) := ⟨HBy.out.setCell HY.out.ge _⟩
  have HKy2 : Aside0 (NetKeep w (wd.setCell ⟨g, 1 + a.toNat * 7 + b.toNat, none⟩ (.bool true)) g v v) := ⟨HKy.out.set _ _⟩
  have hby2 : Aside0 ((wd.setCell ⟨g, 1 + a.toNat * 7 + b.toNat, none⟩ (.bool true)).heap[gb]? = some (.cells #[.pointer (some ⟨g, 0, none⟩)] 22 (0, 0))) := ⟨(Below.heap_setCell _ _ _ _ hgbg.out).trans hby.out⟩
  generalize wd.setCell ⟨g, 1 + a.toNat * 7 + b.toNat, none⟩ (.bool true) = wx at HY2 HBy2 HKy2 hby2 ⊢
  refine pure_ (i := 14) (N := some 28) (v := ?_) (a' := ?_) #[true, true, true, true, true, true, true, true, true, true, true, true, true, true, true, false] rfl rfl (by kernel_rfl) (fun _ _ _ h => h) (Or.inl ⟨by rfl, ?_⟩) ?_ ?_
  rotate_left
  · intro w'
    go_simp
    with_reducible rfl
  rotate_left
  · simp only [Act.put, List.setIfInBounds_toArray, List.set_cons_zero, List.set_cons_succ]
    rfl
  refine one_ (i := 15) (N := none) #[true, true, true, true, true, true, true, true, true, true, true, true, true, true, true, true] rfl rfl (by kernel_rfl) (by decide) (fun K hK => ?_)
  have hf1 := blk_frozen HY2.out.blk (1 + b.toNat * 7 + a.toNat)
  have hc1 := cell_cut_ab HY2.out b a d2 d3 d0 d1
  refine skip_ (w1 := ?_) (by rfl) rfl ?_ ?_
  rotate_left
  · go_simp
    rfl
  refine hK.out _ _ ?_ (fun hHeld => ?_)
  · exact (blk_cell ((Below.heap_setCell _ _ _ _ hgbg.out).trans hby2.out) 0).trans rfl
  clear hK K hf1 hc1
  refine done_ (by kernel_rfl) ?_
  clear hHeld
  have HX := Aside0.mk (set_cut_ab HY2.out b a d2 d3 d0 d1 true)
  have HKx : Aside0 (NetKeep w _ g v v) := ⟨HKy2.out.set (1 + b.toNat * 7 + a.toNat) (.bool true)⟩
  have HBx : Aside0 (Below w0.heap.size w0 _) := ⟨HBy2.out.setCell (p := ⟨g, 1 + b.toNat * 7 + a.toNat, none⟩) HY.out.ge (.bool true)⟩
  have hbx : Aside0 (_ = some (Obj.cells #[.pointer (some ⟨g, 0, none⟩)] 22 (0, 0))) := ⟨(Below.heap_setCell wx ⟨g, 1 + b.toNat * 7 + a.toNat, none⟩ (.bool true) gb hgbg.out).trans hby2.out⟩
  clear HY HBy HKy hby HY2 HBy2 HKy2 hby2
  generalize wx.setCell ⟨g, 1 + b.toNat * 7 + a.toNat, none⟩ (.bool true) = wv at HX HKx HBx hbx ⊢
  have hb0 : wv.cell? ⟨gb, 0, none⟩ = some (.pointer (some ⟨g, 0, none⟩)) := (blk_cell hbx.out 0).trans rfl
  have eg : ∀ args w, (callFunc 27 args).run Try.prog w = .ok (.enter 27 args) w := Go.Proofs.enters_of Try.func27 (by kernel_rfl) rfl
  have hp : ∀ b', v.ownBlock = some b' → PredOK wv b' 27 #[.pointer (some ⟨gb, 0, none⟩)] (fun x => (n.cutAB a b).isCut x.f0 x.f1) n.l := by
    intro b' hb' W x hg hx
    refine wires_Cut1.calls w0.heap.size g gb v (n.cutAB a b) x W (fun i hi => ?_) ?_ (H.out.ok x hx)
    · have hne : some g ≠ some b' := by rw [← hb']; exact H.out.ne
      have := blk_cell ((hg.block g HX.out.lt hne).trans HX.out.blk) (1 + i)
      rw [this, ← blk_cell HX.out.blk (1 + i)]
      exact cell_cut HX.out i hi
    · have hne : some gb ≠ some b' := by rw [← hb']; exact hnb.out
      exact (blk_cell ((hg.block gb (blk_lt hbx.out) hne).trans hbx.out) 0).trans rfl
  have hL := Aside0.mk (wires_lose.calls w0 g v (n.cutAB a b) 27 #[.pointer (some ⟨gb, 0, none⟩)] (fun x => (n.cutAB a b).isCut x.f0 x.f1) eg wv HX.out HBx.out hp)
  clear hp eg
  go_wp2_with (fail)
  refine hL.out.mono ?_
  rintro e w2 ⟨v', rfl, h1, h2, h3⟩
  go_wp2
  go_ret
  exact ⟨v', rfl, h1, h2, HKx.out.trans h3⟩
/-- The function value that Clear hands on. -/
theorem wires_Clear1.calls (gb : Nat) (node : Int) (x : S60) (W : World) (hb : W.cell? ⟨gb, 0, none⟩ = some (.int .i64 node)) :
    Calls Try.prog 35 #[.agg #[.int .i64 x.f0, .int .i64 x.f1, .string x.f2], .pointer (some ⟨gb, 0, none⟩)] W fun e w' => e = .returned (.bool (x.f1 == node)) ∧ Below W.heap.size W w' := by
  have hbl : gb < W.heap.size := World.block_lt_of_cell? W _ hb
  go_enter Try.func35, Try.ntmps35
  go_wp2
  go_ret
  exact ⟨rfl, below_alloc (Below.refl W.heap.size W) _⟩
theorem wires_Clear.calls (w0 : World) (g : Nat) (v : Value) (n : NetS) (node : Int) (w : World) (h : IsNet w w0.heap.size g v n) (hB : Below w0.heap.size w0 w) :
    Calls Try.prog 23 #[.pointer (some ⟨g, 0, none⟩), .int .i64 node] w fun e w' => ∃ v', e = .returned (.int .i64 ((n.l.length : Int) - ((n.l.filter fun x => !(x.f1 == node)).length : Int))) ∧ IsNet w' w0.heap.size g v' (n.lose fun x => x.f1 == node) ∧ Below w0.heap.size w0 w' ∧ NetKeep w w' g v v' := by
  have eg : ∀ args w, (callFunc 35 args).run Try.prog w = .ok (.enter 35 args) w := Go.Proofs.enters_of Try.func35 (by kernel_rfl) rfl
  have hbx : (w.alloc (.cells #[.int .i64 node] 3)).heap[w.heap.size]? = some (.cells #[.int .i64 node] 3 (0, 0)) := heap_alloc_new w _
  have hp : ∀ b', v.ownBlock = some b' → PredOK (w.alloc (.cells #[.int .i64 node] 3)) b' 35 #[.pointer (some ⟨w.heap.size, 0, none⟩)] (fun x => x.f1 == node) n.l := by
    intro b' hb' W x hg hx
    refine wires_Clear1.calls w.heap.size node x W ?_
    have hne : some w.heap.size ≠ some b' := fun hh => by have := own_lt h.row b' hb'; injection hh with hh; omega
    exact (blk_cell ((hg.block _ (blk_lt hbx) hne).trans hbx) 0).trans rfl
  have hL := Aside0.mk (wires_lose.calls w0 g v n 35 #[.pointer (some ⟨w.heap.size, 0, none⟩)] (fun x => x.f1 == node) eg (w.alloc (.cells #[.int .i64 node] 3)) (h.alloc _) (hB.alloc hB.size _) hp)
  have H := Aside0.mk h
  clear hp hbx h hB eg
  go_enter Try.func23, Try.ntmps23
  go_wp2_with (fail)
  refine hL.out.mono ?_
  rintro e w2 ⟨v', rfl, h1, h2, h3⟩
  go_wp2
  go_ret
  exact ⟨v', rfl, h1, h2, ((NetKeep.refl w g v).alloc _).trans h3⟩
end Go.Proofs.Ytodkackgdchocaa.Q
