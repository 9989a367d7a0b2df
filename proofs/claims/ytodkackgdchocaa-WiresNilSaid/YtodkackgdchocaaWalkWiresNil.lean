/- WiresNil answers true at every input: a nil net has nothing; what is no packet between nodes is lost. -/
import Derived.Test.YtodkackgdchocaaTr
import Derived.Test.YtodkackgdchocaaKindsWiresNil
namespace Go.Proofs.Ytodkackgdchocaa.Q
open Go.RowKit Go.Proofs.YtodkackgdchocaaW.PrintWords Go.Proofs.YtodkackgdchocaaW.PrintLast Go.Proofs.YtodkackgdchocaaW.PrintMore
set_option linter.unusedVariables false
set_option linter.unusedSimpArgs false
set_option maxHeartbeats 8000000
set_option maxRecDepth 10000
theorem wires_Len.nil (w : World) : Calls Try.prog 13 #[.pointer none] w fun e w' => e = .returned (.int .i64 0) ∧ w' = w := by
  go_enter Try.func13, Try.ntmps13
  go_wp2
  go_ret
  exact ⟨rfl, rfl⟩
theorem wires_At.nil (i : Int) (w : World) : Calls Try.prog 20 #[.pointer none, .int .i64 i] w fun e w' => e = .returned (.tuple #[.agg #[.int .i64 0, .int .i64 0, .string ⟨#[]⟩], .bool false]) ∧ Below w.heap.size w w' := by
  by_cases c : i < 0
  · have d0 : decide (i < 0) = true := decide_eq_true c
    clear c
    go_enter Try.func20, Try.ntmps20
    go_wp2
    refine bodyPost_ret (results_ct rfl _ _ w.heap.size 27 (pk z60).toArray (0, 0) _ rfl (heap_alloc_new w _) Try.underlying27 rfl (by kernel_rfl)) rfl ?_
    exact ⟨rfl, (Below.refl _ _).alloc (Nat.le_refl _) _⟩
  · have d0 : decide (i < 0) = false := decide_eq_false c
    have d1 : decide ((0 : Int) ≤ i) = true := decide_eq_true (by omega)
    clear c
    go_enter Try.func20, Try.ntmps20
    go_wp2_with (first | (go_at_call 13; (with_reducible refine (wires_Len.nil _).mono ?_); rintro e w' ⟨rfl, rfl⟩))
    refine bodyPost_ret (results_ct rfl _ _ w.heap.size 27 (pk z60).toArray (0, 0) _ rfl (heap_alloc_new w _) Try.underlying27 rfl (by kernel_rfl)) rfl ?_
    exact ⟨rfl, (Below.refl _ _).alloc (Nat.le_refl _) _⟩
theorem wires_Take.nil (i : Int) (w : World) : Calls Try.prog 14 #[.pointer none, .int .i64 i] w fun e w' => e = .returned (.tuple #[.agg #[.int .i64 0, .int .i64 0, .string ⟨#[]⟩], .bool false]) ∧ Below w.heap.size w w' := by
  go_enter Try.func14, Try.ntmps14
  go_wp2_with (first
    | (go_at_call 20; (refine (wires_At.nil i _).mono ?_); rintro e w1 ⟨rfl, hb⟩
       have hr0 := Aside0.mk (blk_below (g := w.heap.size) (heap_alloc_new w _) hb)
       have hlt : w.heap.size < w1.heap.size := blk_lt hr0.out
       have hn1 : w.heap.size ≠ w1.heap.size := by omega
       have hn2 : w1.heap.size ≠ w.heap.size := by omega
       have rc0 : w1.cell? ⟨w.heap.size, 0, none⟩ = some (.int .i64 0) := (blk_cell hr0.out 0).trans rfl
       have rc1 : w1.cell? ⟨w.heap.size, 1, none⟩ = some (.int .i64 0) := (blk_cell hr0.out 1).trans rfl
       have rc2 : w1.cell? ⟨w.heap.size, 2, none⟩ = some (.string ⟨#[]⟩) := (blk_cell hr0.out 2).trans rfl
       have rf0 := blk_frozen hr0.out 0
       have rf1 := blk_frozen hr0.out 1
       have rf2 := blk_frozen hr0.out 2
       have HB := Aside0.mk (below_step ((Below.refl w.heap.size w).alloc (Nat.le_refl _) _) hb)
       clear hb))
  refine bodyPost_ret (results_ct rfl _ _ w.heap.size 27 #[.int .i64 0, .int .i64 0, .string ⟨#[]⟩] (0, 0) _ rfl (blk_alloc (blk_put (blk_put (blk_put hr0.out 0 _ rfl) 1 _ rfl) 2 _ rfl) _) Try.underlying27 rfl (by kernel_rfl)) rfl ?_
  exact ⟨rfl, below_alloc (((HB.out.setCell (Nat.le_refl _) _).setCell (Nat.le_refl _) _).setCell (Nat.le_refl _) _) _⟩
theorem wires_Drop.nil (i : Int) (w : World) : Calls Try.prog 22 #[.pointer none, .int .i64 i] w fun e w' => e = .returned (.bool false) ∧ Below w.heap.size w w' := by
  go_enter Try.func22, Try.ntmps22
  go_wp2_with (first
    | (go_at_call 20; (refine (wires_At.nil i _).mono ?_); rintro e w1 ⟨rfl, hb⟩; have HB := Aside0.mk hb; clear hb))
  go_ret
  exact ⟨rfl, below_alloc HB.out _⟩
theorem wires_Double.nil (i : Int) (w : World) : Calls Try.prog 12 #[.pointer none, .int .i64 i] w fun e w' => e = .returned (.bool false) ∧ Below w.heap.size w w' := by
  go_enter Try.func12, Try.ntmps12
  go_wp2_with (first
    | (go_at_call 20; (refine (wires_At.nil i _).mono ?_); rintro e w1 ⟨rfl, hb⟩; have HB := Aside0.mk hb; clear hb))
  go_ret
  exact ⟨rfl, below_alloc HB.out _⟩
theorem wires_Heal.nil (w : World) : Calls Try.prog 16 #[.pointer none] w fun e w' => e = .returned (.tuple #[]) ∧ w' = w := by
  go_enter Try.func16, Try.ntmps16
  go_wp2
  first | go_end0 | ((try simp only [Exit.inBlock, Exit.then]); refine bodyPost_ret (results_none rfl _ _ _) rfl ?_)
  exact ⟨rfl, rfl⟩
theorem wires_Counts.nil (w : World) : Calls Try.prog 19 #[.pointer none] w fun e w' => e = .returned (.tuple #[.int .i64 0, .int .i64 0, .int .i64 0]) ∧ w' = w := by
  go_enter Try.func19, Try.ntmps19
  go_wp2
  refine bodyPost_ret (results_tmp3 rfl _ _ _) rfl ?_
  exact ⟨rfl, rfl⟩
theorem wires_Send.nil (x y : Int) (s : ByteArray) (w : World) : Calls Try.prog 11 #[.pointer none, .agg #[.int .i64 x, .int .i64 y, .string s]] w fun e w' => e = .returned (.bool false) ∧ Below w.heap.size w w' := by
  go_enter Try.func11, Try.ntmps11
  go_wp2
  go_ret
  exact ⟨rfl, below_alloc (Below.refl w.heap.size w) _⟩
theorem wires_Cut.nil (a b : Int) (w : World) : Calls Try.prog 15 #[.pointer none, .int .i64 a, .int .i64 b] w fun e w' => e = .returned (.int .i64 0) ∧ Below w.heap.size w w' := by
  go_enter Try.func15, Try.ntmps15
  go_wp2
  go_ret
  exact ⟨rfl, below_alloc (Below.refl w.heap.size w) _⟩
theorem wires_Clear.nil (a : Int) (w : World) : Calls Try.prog 23 #[.pointer none, .int .i64 a] w fun e w' => e = .returned (.int .i64 0) ∧ Below w.heap.size w w' := by
  go_enter Try.func23, Try.ntmps23
  go_wp2
  go_ret
  exact ⟨rfl, below_alloc (Below.refl w.heap.size w) _⟩
theorem Node.of (a : Int) : stowageref08_Node.f a = some (decide (0 ≤ a ∧ a < 7)) := by
  unfold stowageref08_Node.f
  by_cases h : a ≥ 0
  · rw [if_pos h]
    have : (0 : Int) ≤ a := h
    simp [this]
  · rw [if_neg h]
    have : ¬ (0 : Int) ≤ a := h
    simp [this]
/-- Up to where right is known: p's box, the calls on nil, the new net, the worked example. -/
theorem stowagelaw08_WiresNil.calls (p : S60) (n : Int) (w : World) :
    Calls Try.prog 8 #[.agg #[.int .i64 p.f0, .int .i64 p.f1, .string p.f2], .int .i64 n] w fun e w' => e = .returned (.bool true) ∧ Below w.heap.size w w' := by
  obtain ⟨t1, ht1⟩ : ∃ t, t = decide (0 ≤ p.f0 ∧ p.f0 < 7) := ⟨_, rfl⟩
  obtain ⟨t2, ht2⟩ : ∃ t, t = decide (0 ≤ p.f1 ∧ p.f1 < 7) := ⟨_, rfl⟩
  obtain ⟨t3, ht3⟩ : ∃ t, t = (p.f0 != p.f1) := ⟨_, rfl⟩
  have A1 := Aside0.mk (Node.of p.f0)
  have A2 := Aside0.mk (Node.of p.f1)
  rw [← ht1] at A1
  rw [← ht2] at A2
  have hs : (net0.send p).2 = (t1 && (t2 && t3)) := by
    unfold NetS.send
    by_cases hd : 0 ≤ p.f0 ∧ p.f0 < 7 ∧ 0 ≤ p.f1 ∧ p.f1 < 7 ∧ p.f0 ≠ p.f1
    · rw [if_pos hd, if_neg (by rw [uncut net0 rfl]; simp [net0])]
      rw [ht1, ht2, ht3]
      simp [hd.1, hd.2.1, hd.2.2.1, hd.2.2.2.1, hd.2.2.2.2]
    · rw [if_neg hd, ht1, ht2, ht3]
      simp only [Bool.false_eq, Bool.and_eq_false_iff]
      by_cases h1 : 0 ≤ p.f0 ∧ p.f0 < 7
      · by_cases h2 : 0 ≤ p.f1 ∧ p.f1 < 7
        · right; right
          have : p.f0 = p.f1 := by omega
          simp [this]
        · right; left; exact decide_eq_false h2
      · left; exact decide_eq_false h1
  have HS := Aside0.mk hs
  have H3 := Aside0.mk ht3
  clear hs ht1 ht2
  go_enter Try.func8, Try.ntmps8
  obtain ⟨gp, hgp⟩ : ∃ g, g = w.heap.size := ⟨_, rfl⟩
  have B0 : Aside0 (Below w.heap.size w (w.alloc (.cells #[.int .i64 p.f0, .int .i64 p.f1, .string p.f2] 27))) := ⟨(Below.refl _ _).alloc (Nat.le_refl _) _⟩
  have P0 : Aside0 ((w.alloc (.cells #[.int .i64 p.f0, .int .i64 p.f1, .string p.f2] 27)).heap[gp]? = some (.cells #[.int .i64 p.f0, .int .i64 p.f1, .string p.f2] 27)) := ⟨by rw [hgp]; exact heap_alloc_new w _⟩
  go_wp2_with (fail)
  rw [← hgp]
  clear hgp
  refine (wires_At.nil n _).mono ?_
  rintro e w1 ⟨rfl, hb⟩
  have B1 := Aside0.mk (below_alloc (below_step B0.out hb) (.cells #[.int .i64 0, .int .i64 0, .string ⟨#[]⟩] 27))
  have P1 := Aside0.mk (blk_alloc (blk_below P0.out hb) (.cells #[.int .i64 0, .int .i64 0, .string ⟨#[]⟩] 27))
  clear hb B0 P0
  go_wp2_with (fail)
  refine (wires_Take.nil n _).mono ?_
  rintro e w2 ⟨rfl, hb⟩
  have B2 := Aside0.mk (below_alloc (below_step B1.out hb) (.cells #[.int .i64 0, .int .i64 0, .string ⟨#[]⟩] 27))
  have P2 := Aside0.mk (blk_alloc (blk_below P1.out hb) (.cells #[.int .i64 0, .int .i64 0, .string ⟨#[]⟩] 27))
  clear hb B1 P1
  go_wp2_with (fail)
  refine (wires_Heal.nil _).mono ?_
  rintro e w3 ⟨rfl, rfl⟩
  go_wp2_with (fail)
  refine (wires_Counts.nil _).mono ?_
  rintro e w4 ⟨rfl, rfl⟩
  go_wp2_with (fail)
  refine (T_New (w0 := w) (bs := [(gp, .cells #[.int .i64 p.f0, .int .i64 p.f1, .string p.f2] 27)]) B2.out (fun q hq => by obtain rfl := List.mem_singleton.1 hq; exact P2.out)).mono ?_
  rintro e w5 ⟨g, rfl, hT, hg, _⟩
  have T5 := Aside0.mk hT
  clear hT hg B2 P2
  go_wp2_with (fail)
  refine (stowagelaw08_awake.calls w5).mono ?_
  rintro e w6 ⟨rfl, hb⟩
  have T6 := Aside0.mk (T5.out.below hb)
  clear hb T5
  have Q6 : w6.heap[gp]? = some (.cells #[.int .i64 p.f0, .int .i64 p.f1, .string p.f2] 27 (0, 0)) := T6.out.mem (by simp)
  have c60 := (blk_cell Q6 0).trans rfl
  have c61 := (blk_cell Q6 1).trans rfl
  have c62 := (blk_cell Q6 2).trans rfl
  clear Q6
  have q1 : (p.f0 != p.f1) = t3 := H3.out.symm
  clear ht3 H3
  go_wp2_with (fail)
  refine (stowageref08_Node.calls p.f0 t1 _ A1.out).mono ?_
  rintro e w7 ⟨rfl, ⟨⟨d1, rfl⟩⟩⟩
  have T7 := Aside0.mk (T6.out.drewN d1)
  clear T6 A1
  cases t1 with
  | false =>
    rw [Bool.false_and] at HS
    go_wp2_with (fail)
    refine (T_Send p T7.out).mono ?_
    rw [HS.out]
    rintro e w8 ⟨rfl, hT, _⟩
    have T8 := Aside0.mk hT
    have Q8 : w8.heap[gp]? = some (.cells #[.int .i64 p.f0, .int .i64 p.f1, .string p.f2] 27 (0, 0)) := hT.mem (by simp)
    have c80 := (blk_cell Q8 0).trans rfl
    have c81 := (blk_cell Q8 1).trans rfl
    have c82 := (blk_cell Q8 2).trans rfl
    clear Q8 hT T7 c60 c61 c62
    go_wp2_with (fail)
    refine (wires_Send.nil p.f0 p.f1 p.f2 _).mono ?_
    rintro e w9 ⟨rfl, hb⟩
    have T9 := Aside0.mk (T8.out.below hb)
    clear hb T8 c80 c81 c82
    go_wp2_with (fail)
    refine (wires_Len.nil _).mono ?_
    rintro e w10 ⟨rfl, rfl⟩
    go_wp2_with (fail)
    refine (wires_Drop.nil n _).mono ?_
    rintro e w11 ⟨rfl, hb⟩
    have T11 := Aside0.mk (T9.out.below hb)
    clear hb T9
    go_wp2_with (fail)
    refine (wires_Double.nil n _).mono ?_
    rintro e w12 ⟨rfl, hb⟩
    have T12 := Aside0.mk (T11.out.below hb)
    clear hb T11
    go_wp2_with (fail)
    refine (wires_Cut.nil 0 1 _).mono ?_
    rintro e w13 ⟨rfl, hb⟩
    have T13 := Aside0.mk (T12.out.below hb)
    clear hb T12
    go_wp2_with (fail)
    refine (wires_Clear.nil n _).mono ?_
    rintro e w14 ⟨rfl, hb⟩
    have T14 := Aside0.mk (T13.out.below hb)
    clear hb T13
    go_wp2
    go_ret
    exact ⟨rfl, T14.out.1⟩
  | true =>
    rw [Bool.true_and] at HS
    go_wp2_with (fail)
    refine (stowageref08_Node.calls p.f1 t2 _ A2.out).mono ?_
    rintro e w7 ⟨rfl, ⟨⟨d2, rfl⟩⟩⟩
    have T7' := Aside0.mk (T7.out.drewN d2)
    rw [World.drewN_drewN] at T7'
    clear T7 A2
    cases t2 with
    | false =>
      rw [Bool.false_and] at HS
      go_wp2_with (fail)
      refine (T_Send p T7'.out).mono ?_
      rw [HS.out]
      rintro e w8 ⟨rfl, hT, _⟩
      have T8 := Aside0.mk hT
      have Q8 : w8.heap[gp]? = some (.cells #[.int .i64 p.f0, .int .i64 p.f1, .string p.f2] 27 (0, 0)) := hT.mem (by simp)
      have c80 := (blk_cell Q8 0).trans rfl
      have c81 := (blk_cell Q8 1).trans rfl
      have c82 := (blk_cell Q8 2).trans rfl
      clear Q8 hT T7' c60 c61 c62
      go_wp2_with (fail)
      refine (wires_Send.nil p.f0 p.f1 p.f2 _).mono ?_
      rintro e w9 ⟨rfl, hb⟩
      have T9 := Aside0.mk (T8.out.below hb)
      clear hb T8 c80 c81 c82
      go_wp2_with (fail)
      refine (wires_Len.nil _).mono ?_
      rintro e w10 ⟨rfl, rfl⟩
      go_wp2_with (fail)
      refine (wires_Drop.nil n _).mono ?_
      rintro e w11 ⟨rfl, hb⟩
      have T11 := Aside0.mk (T9.out.below hb)
      clear hb T9
      go_wp2_with (fail)
      refine (wires_Double.nil n _).mono ?_
      rintro e w12 ⟨rfl, hb⟩
      have T12 := Aside0.mk (T11.out.below hb)
      clear hb T11
      go_wp2_with (fail)
      refine (wires_Cut.nil 0 1 _).mono ?_
      rintro e w13 ⟨rfl, hb⟩
      have T13 := Aside0.mk (T12.out.below hb)
      clear hb T12
      go_wp2_with (fail)
      refine (wires_Clear.nil n _).mono ?_
      rintro e w14 ⟨rfl, hb⟩
      have T14 := Aside0.mk (T13.out.below hb)
      clear hb T13
      go_wp2
      go_ret
      exact ⟨rfl, T14.out.1⟩
    | true =>
      rw [Bool.true_and] at HS
      cases t3 with
      | false =>
        go_wp2_with (fail)
        refine (T_Send p T7'.out).mono ?_
        rw [HS.out]
        rintro e w8 ⟨rfl, hT, _⟩
        have T8 := Aside0.mk hT
        have Q8 : w8.heap[gp]? = some (.cells #[.int .i64 p.f0, .int .i64 p.f1, .string p.f2] 27 (0, 0)) := hT.mem (by simp)
        have c80 := (blk_cell Q8 0).trans rfl
        have c81 := (blk_cell Q8 1).trans rfl
        have c82 := (blk_cell Q8 2).trans rfl
        clear Q8 hT T7' c60 c61 c62
        go_wp2_with (fail)
        refine (wires_Send.nil p.f0 p.f1 p.f2 _).mono ?_
        rintro e w9 ⟨rfl, hb⟩
        have T9 := Aside0.mk (T8.out.below hb)
        clear hb T8 c80 c81 c82
        go_wp2_with (fail)
        refine (wires_Len.nil _).mono ?_
        rintro e w10 ⟨rfl, rfl⟩
        go_wp2_with (fail)
        refine (wires_Drop.nil n _).mono ?_
        rintro e w11 ⟨rfl, hb⟩
        have T11 := Aside0.mk (T9.out.below hb)
        clear hb T9
        go_wp2_with (fail)
        refine (wires_Double.nil n _).mono ?_
        rintro e w12 ⟨rfl, hb⟩
        have T12 := Aside0.mk (T11.out.below hb)
        clear hb T11
        go_wp2_with (fail)
        refine (wires_Cut.nil 0 1 _).mono ?_
        rintro e w13 ⟨rfl, hb⟩
        have T13 := Aside0.mk (T12.out.below hb)
        clear hb T12
        go_wp2_with (fail)
        refine (wires_Clear.nil n _).mono ?_
        rintro e w14 ⟨rfl, hb⟩
        have T14 := Aside0.mk (T13.out.below hb)
        clear hb T13
        go_wp2
        go_ret
        exact ⟨rfl, T14.out.1⟩
      | true =>
        go_wp2_with (fail)
        refine (T_Send p T7'.out).mono ?_
        rw [HS.out]
        rintro e w8 ⟨rfl, hT, _⟩
        have T8 := Aside0.mk hT
        have Q8 : w8.heap[gp]? = some (.cells #[.int .i64 p.f0, .int .i64 p.f1, .string p.f2] 27 (0, 0)) := hT.mem (by simp)
        have c80 := (blk_cell Q8 0).trans rfl
        have c81 := (blk_cell Q8 1).trans rfl
        have c82 := (blk_cell Q8 2).trans rfl
        clear Q8 hT T7' c60 c61 c62
        go_wp2_with (fail)
        refine (wires_Send.nil p.f0 p.f1 p.f2 _).mono ?_
        rintro e w9 ⟨rfl, hb⟩
        have T9 := Aside0.mk (T8.out.below hb)
        clear hb T8 c80 c81 c82
        go_wp2_with (fail)
        refine (wires_Len.nil _).mono ?_
        rintro e w10 ⟨rfl, rfl⟩
        go_wp2_with (fail)
        refine (wires_Drop.nil n _).mono ?_
        rintro e w11 ⟨rfl, hb⟩
        have T11 := Aside0.mk (T9.out.below hb)
        clear hb T9
        go_wp2_with (fail)
        refine (wires_Double.nil n _).mono ?_
        rintro e w12 ⟨rfl, hb⟩
        have T12 := Aside0.mk (T11.out.below hb)
        clear hb T11
        go_wp2_with (fail)
        refine (wires_Cut.nil 0 1 _).mono ?_
        rintro e w13 ⟨rfl, hb⟩
        have T13 := Aside0.mk (T12.out.below hb)
        clear hb T12
        go_wp2_with (fail)
        refine (wires_Clear.nil n _).mono ?_
        rintro e w14 ⟨rfl, hb⟩
        have T14 := Aside0.mk (T13.out.below hb)
        clear hb T13
        go_wp2
        go_ret
        exact ⟨rfl, T14.out.1⟩
end Go.Proofs.Ytodkackgdchocaa.Q
namespace Go.Proofs.Ytodkackgdchocaa.Walks
open Go.RowKit Go.Proofs.Ytodkackgdchocaa.Q Go.Proofs.YtodkackgdchocaaW.PrintWords Go.Proofs.YtodkackgdchocaaW.PrintLast Go.Proofs.YtodkackgdchocaaW.PrintMore
set_option linter.unusedVariables false
theorem WiresNil (W : World) (cs0 : Array Value) (a0 : K.S27) (K0 : K.k27.K W a0 cs0.toList) (g0 : ((Lit.int .i64 a0.f0).wf = true ∧ ((Lit.int .i64 a0.f1).wf = true ∧ a0.f2.size ≤ 140737488351232))) (a1 : Int) (g1 : (Lit.int .i64 a1).wf = true) :
    Calls Try.prog 8 #[.agg cs0, .int .i64 a1] W fun e w' => e = .returned (.bool true) ∧ Below W.heap.size W w' := by
  obtain rfl : cs0 = #[.int .i64 a0.f0, .int .i64 a0.f1, .string a0.f2] := by apply Array.toList_inj.1; simpa using K.k27_open K0
  exact stowagelaw08_WiresNil.calls ⟨a0.f0, a0.f1, a0.f2⟩ a1 W
end Go.Proofs.Ytodkackgdchocaa.Walks
