/- WiresPlays answers true at every input: packets are sent, come, are lost and doubled, ways are cut and mended, as the reference says. -/
import Derived.Test.YtodkackgdchocaaAlike
import Derived.Test.YtodkackgdchocaaKindsWiresPlays
namespace Go.Proofs.Ytodkackgdchocaa.Q
open Go.RowKit Go.Proofs.YtodkackgdchocaaW.PrintWords Go.Proofs.YtodkackgdchocaaW.PrintLast Go.Proofs.YtodkackgdchocaaW.PrintMore
set_option linter.unusedVariables false
set_option linter.unusedSimpArgs false
set_option maxHeartbeats 8000000
set_option maxRecDepth 10000
def z45 : K.S45 := ⟨0, ⟨0, 0, ⟨#[]⟩⟩, 0, 0⟩
theorem k45_open {w : World} {x : K.S45} {cs : List Value} (h : K.k45.K w x cs) : cs = [.int .i64 x.f0, .int .i64 x.f1.f0, .int .i64 x.f1.f1, .string x.f1.f2, .int .i64 x.f2, .int .i64 x.f3] := by
 obtain ⟨_, _, rfl, rfl, ⟨_, _, rfl, ⟨_, _, rfl, rfl, ⟨_, _, rfl, rfl, rfl⟩⟩, ⟨_, _, rfl, rfl, rfl⟩⟩⟩ := h
 exact rfl
theorem at_T45 {w W : World} {A : Option Addr} {xs : List K.S45} (h : Kd.C K.k45 w A xs.length xs) (hb : Below w.heap.size w W) (i : Nat) (h1 : i < xs.length) : ∃ ad x, A = some ad ∧ x = xs.getD i z45 ∧ W.cell? (ad.add (i * 6)) = some (.int .i64 x.f0) ∧ W.cell? ⟨(ad.add (i * 6)).block, (ad.add (i * 6)).off + 1, none⟩ = some (.int .i64 x.f1.f0) ∧ W.cell? ⟨(ad.add (i * 6)).block, (ad.add (i * 6)).off + 2, none⟩ = some (.int .i64 x.f1.f1) ∧ W.cell? ⟨(ad.add (i * 6)).block, (ad.add (i * 6)).off + 3, none⟩ = some (.string x.f1.f2) ∧ W.cell? ⟨(ad.add (i * 6)).block, (ad.add (i * 6)).off + 4, none⟩ = some (.int .i64 x.f2) ∧ W.cell? ⟨(ad.add (i * 6)).block, (ad.add (i * 6)).off + 5, none⟩ = some (.int .i64 x.f3) := by
 obtain ⟨ad, c, e, _, hK, hc0⟩ := Kd.C_get h z45 (i : Int) (by omega) (by omega)
 have hc : ∀ j u, c[j]? = some u → W.cell? (ad.add (i * 6 + j)) = some u := fun j u hu => by
  have := hc0 j u hu
  exact (hb.cell (World.block_lt_of_cell? w _ this)).trans this
 obtain rfl := k45_open hK
 exact ⟨ad, xs.getD i z45, e, rfl, hc 0 _ rfl, by rw [← add_field _ _ 1 (by omega)]; exact hc 1 _ rfl, by rw [← add_field _ _ 2 (by omega)]; exact hc 2 _ rfl, by rw [← add_field _ _ 3 (by omega)]; exact hc 3 _ rfl, by rw [← add_field _ _ 4 (by omega)]; exact hc 4 _ rfl, by rw [← add_field _ _ 5 (by omega)]; exact hc 5 _ rfl⟩
theorem Tr.addT {w0 w : World} {g : Nat} {n : NetS} {k : Nat} {cs : Array Value} {t : TypeId} (h : Tr w0 w g n []) (hk : w.heap[k]? = some (.cells cs t (0, 0))) (h1 : t ≠ 56 ∧ t ≠ 27) : Tr w0 w g n [(k, .cells cs t (0, 0))] := by
 obtain ⟨h0, v, hN, _⟩ := h
 refine ⟨h0, v, hN, fun q hq => ?_⟩
 obtain rfl := List.mem_singleton.1 hq
 refine ⟨hk, fun e => ?_, fun e => ?_⟩
 ·subst e
  have := hN.blk
  rw [hk] at this
  injection this with this
  injection this with _ e _
  exact h1.1 e
 ·obtain ⟨cs', hc⟩ := own_typed hN.row k e.symm
  rw [hk] at hc
  injection hc with hc
  injection hc with _ e _
  exact h1.2 e
theorem stowagelaw08_WiresPlays.calls (A : Option Addr) (c : Nat) (l : List K.S45) (w : World) (C : Kd.C K.k45 w A l.length l) (hc : l.length ≤ c) :
  Calls Try.prog 6 #[.slice A l.length c] w fun e w' => e = .returned (.bool true) ∧ Below w.heap.size w w' := by
 obtain ⟨m, hm⟩ : ∃ m, m = l.length := ⟨_, rfl⟩
 have HC := Aside0.mk C
 have HM := Aside0.mk hm
 have hmc : m ≤ c := by omega
 rw [← hm]
 clear C hm hc
 go_enter Try.func6, Try.ntmps6
 go_wp2_with (fail)
 refine (T_New (w0 := w) (bs := []) (Below.refl _ _) (fun q hq => by cases hq)).mono ?_
 rintro e w1 ⟨g, rfl, hT, hg, hb⟩
 have T1 := Aside0.mk (hT.alloc (.cells #[.slice none 0 0, .slice none 0 0, .int .i64 0, .int .i64 0, .int .i64 0] 41 (0, 0)))
 have B4 : Aside0 ((w1.alloc (.cells #[.slice none 0 0, .slice none 0 0, .int .i64 0, .int .i64 0, .int .i64 0] 41 (0, 0))).heap[w1.heap.size]? = some (.cells #[.slice none 0 0, .slice none 0 0, .int .i64 0, .int .i64 0, .int .i64 0] 41 (0, 0))) := ⟨heap_alloc_new w1 _⟩
 have L4 : Aside0 (w.heap.size ≤ w1.heap.size) := ⟨hT.1.size⟩
 clear hT hg hb
 go_wp2_with (fail)
 generalize w1.alloc (.cells #[.slice none 0 0, .slice none 0 0, .int .i64 0, .int .i64 0, .int .i64 0] 41 (0, 0)) = w2 at T1 B4 ⊢
 generalize w1.heap.size = b4 at B4 L4 ⊢
 refine (stowagelaw08_awake.calls w2).mono ?_
 rintro e w3 ⟨rfl, hb⟩
 have T3 := Aside0.mk (T1.out.below hb)
 have B43 := Aside0.mk (blk_below B4.out hb)
 clear hb T1 B4
 obtain ⟨N, hN⟩ : ∃ N, N = 80 := ⟨_, rfl⟩
 go_wp2
 go_loopg [5] N (fun gg s5 wr => ∃ (i : Nat) (n : NetS) (A0 : Option Addr) (c0 : Nat) (A1 : Option Addr) (c1 : Nat) (l0 : List S60) (l1 : List S71) (a2 a3 a4 : Int), s5 = .int .i64 (i : Int) ∧ i ≤ N ∧ N - i ≤ gg ∧ Aside0 (Tr w wr g n []) ∧ Aside0 (MR wr w.heap.size (.slice A0 l0.length c0) (.slice A1 l1.length c1) l0 l1) ∧ Aside0 (wr.heap[b4]? = some (.cells #[.slice A0 l0.length c0, .slice A1 l1.length c1, .int .i64 a2, .int .i64 a3, .int .i64 a4] 41 (0, 0))) ∧ Aside0 (Rel n l0 l1 a2 a3 a4 ∧ l1.length ≤ i))
 case atStart => exact ⟨0, net0, none, 0, none, 0, [], [], 0, 0, 0, rfl, Nat.zero_le _, Nat.le_refl _, T3, ⟨⟨Kd.R_nil _ _ _ _ _, Kd.R_nil _ _ _ _ _⟩⟩, B43, ⟨⟨rfl, rfl, rfl, rfl, fun i j _ _ => uncut net0 rfl i j⟩, Nat.le_refl _⟩⟩
 case round =>
  obtain ⟨i, n, A0, c0, A1, c1, l0, l1, a2, a3, a4, rfl, hiN, hgg, TR, MRr, BR, RR⟩ := hrel
  clear T3 B43
  by_cases hlt : i < m ∧ i < N
  ·obtain ⟨hlt, hltN⟩ := hlt
   have hlz : (i : Int) < (m : Int) := by omega
   have hl0 : (0 : Int) ≤ (i : Int) := by omega
   have h80 : decide ((i : Int) < 80) = true := decide_eq_true (by omega)
   have hd4 := BR.out
   have d40 := (blk_cell hd4 0).trans rfl
   have d41 := (blk_cell hd4 1).trans rfl
   have d42 := (blk_cell hd4 2).trans rfl
   have d43 := (blk_cell hd4 3).trans rfl
   have d44 := (blk_cell hd4 4).trans rfl
   clear hd4
   obtain ⟨ad, x, hA, hx, hE0, hE1, hE2, hE3, hE4, hE5⟩ := at_T45 HC.out (Below.refl _ _) i (by rw [← HM.out]; exact hlt)
   subst hA
   clear hx
   have HE0 := Aside0.mk hE0
   have HE1 := Aside0.mk hE1
   have HE2 := Aside0.mk hE2
   have HE3 := Aside0.mk hE3
   have HE4 := Aside0.mk hE4
   have HE5 := Aside0.mk hE5
   clear hE0 hE1 hE2 hE3 hE4 hE5
   go_upto_region 8 with (fail)
   refine start_ (n := 13) (S := (fun w' => w'.cell? ⟨b4, 0, none⟩ = some (.slice A0 l0.length c0) ∧ w'.cell? ⟨b4, 1, none⟩ = some (.slice A1 l1.length c1) ∧ w'.cell? ⟨b4, 2, none⟩ = some (.int .i64 a2) ∧ w'.cell? ⟨b4, 3, none⟩ = some (.int .i64 a3) ∧ w'.cell? ⟨b4, 4, none⟩ = some (.int .i64 a4) ∧ w'.cell? (ad.add (i * 6)) = some (.int .i64 x.f0) ∧ w'.cell? ⟨(ad.add (i * 6)).block, (ad.add (i * 6)).off + 1, none⟩ = some (.int .i64 x.f1.f0) ∧ w'.cell? ⟨(ad.add (i * 6)).block, (ad.add (i * 6)).off + 2, none⟩ = some (.int .i64 x.f1.f1) ∧ w'.cell? ⟨(ad.add (i * 6)).block, (ad.add (i * 6)).off + 3, none⟩ = some (.string x.f1.f2) ∧ w'.cell? ⟨(ad.add (i * 6)).block, (ad.add (i * 6)).off + 4, none⟩ = some (.int .i64 x.f2) ∧ w'.cell? ⟨(ad.add (i * 6)).block, (ad.add (i * 6)).off + 5, none⟩ = some (.int .i64 x.f3))) (ds := [11]) #[false, false, false, false, false, false, false, false, false, false, false, false, false] (by kernel_rfl) rfl rfl ⟨(blk_cell BR.out 0).trans rfl, (blk_cell BR.out 1).trans rfl, (blk_cell BR.out 2).trans rfl, (blk_cell BR.out 3).trans rfl, (blk_cell BR.out 4).trans rfl, (Below.cell (TR.out.1) (World.block_lt_of_cell? w _ HE0.out)).trans HE0.out, (Below.cell (TR.out.1) (World.block_lt_of_cell? w _ HE1.out)).trans HE1.out, (Below.cell (TR.out.1) (World.block_lt_of_cell? w _ HE2.out)).trans HE2.out, (Below.cell (TR.out.1) (World.block_lt_of_cell? w _ HE3.out)).trans HE3.out, (Below.cell (TR.out.1) (World.block_lt_of_cell? w _ HE4.out)).trans HE4.out, (Below.cell (TR.out.1) (World.block_lt_of_cell? w _ HE5.out)).trans HE5.out⟩ (fun hHeld => ?_)
   clear d40 d41 d42 d43 d44
   have TD := Aside0.mk TR.out.drew
   have MD := Aside0.mk (MRr.out.below (below_drew1 (Below.refl wr.heap.size wr)))
   have BD : Aside0 (wr.drew.heap[b4]? = some (.cells #[.slice A0 l0.length c0, .slice A1 l1.length c1, .int .i64 a2, .int .i64 a3, .int .i64 a4] 41 (0, 0))) := ⟨BR.out⟩
   clear TR MRr BR
   generalize wr.drew = wd at TD MD BD hHeld ⊢
   refine pure_ (i := 0) (N := some 27) (v := ?_) (a' := ?_) #[true, false, false, false, false, false, false, false, false, false, false, false, false] rfl rfl (by kernel_rfl) (fun _ _ _ h => h) (Or.inl ⟨by rfl, ?_⟩) ?_ ?_
   rotate_left
   ·intro w'
    go_simp
    with_reducible rfl
   rotate_left
   ·simp only [Act.put, List.setIfInBounds_toArray, List.set_cons_zero, List.set_cons_succ]
    rfl
   refine take_ (i := 1) (N := some 28) (v := ?_) (a' := ?_) #[true, true, false, false, false, false, false, false, false, false, false, false, false] rfl rfl (by kernel_rfl) (fun _ _ _ h => h) (Or.inl ⟨by rfl, ?_⟩) (by first | exact hHeld | assumption) ?_ ?_
   rotate_left
   ·rintro w' ⟨s0, s1, s2, s3, s4, s5, s6, s7, s8, s9, s10⟩
    go_simp
    with_reducible rfl
   rotate_left
   ·simp only [Act.put, List.setIfInBounds_toArray, List.set_cons_zero, List.set_cons_succ]
    rfl
   refine pure_ (i := 2) (N := some 29) (v := ?_) (a' := ?_) #[true, true, true, false, false, false, false, false, false, false, false, false, false] rfl rfl (by kernel_rfl) (fun _ _ _ h => h) (Or.inl ⟨by rfl, ?_⟩) ?_ ?_
   rotate_left
   ·intro w'
    go_simp
    with_reducible rfl
   rotate_left
   ·simp only [Act.put, List.setIfInBounds_toArray, List.set_cons_zero, List.set_cons_succ]
    rfl
   refine pure_ (i := 3) (N := some 30) (v := ?_) (a' := ?_) #[true, true, true, true, false, false, false, false, false, false, false, false, false] rfl rfl (by kernel_rfl) (fun _ _ _ h => h) (Or.inl ⟨by rfl, ?_⟩) ?_ ?_
   rotate_left
   ·intro w'
    go_simp
    with_reducible rfl
   rotate_left
   ·simp only [Act.put, List.setIfInBounds_toArray, List.set_cons_zero, List.set_cons_succ]
    rfl
   refine pure_ (i := 4) (N := some 31) (v := ?_) (a' := ?_) #[true, true, true, true, true, false, false, false, false, false, false, false, false] rfl rfl (by kernel_rfl) (fun _ _ _ h => h) (Or.inl ⟨by rfl, ?_⟩) ?_ ?_
   rotate_left
   ·intro w'
    go_simp
    with_reducible rfl
   rotate_left
   ·simp only [Act.put, List.setIfInBounds_toArray, List.set_cons_zero, List.set_cons_succ]
    rfl
   refine take_ (i := 5) (N := some 32) (v := ?_) (a' := ?_) #[true, true, true, true, true, true, false, false, false, false, false, false, false] rfl rfl (by kernel_rfl) (fun _ _ _ h => h) (Or.inl ⟨by rfl, ?_⟩) (by first | exact hHeld | assumption) ?_ ?_
   rotate_left
   ·rintro w' ⟨s0, s1, s2, s3, s4, s5, s6, s7, s8, s9, s10⟩
    go_simp
    with_reducible rfl
   rotate_left
   ·simp only [Act.put, List.setIfInBounds_toArray, List.set_cons_zero, List.set_cons_succ]
    rfl
   refine join_ (σ := NetS × Option Addr × Nat × Option Addr × Nat × List S60 × List S71 × Int × Int × Int × Nat) 2 #[true, true, true, true, true, true, true, true, true, true, true, false, false] (fun s_ => [(33, .tuple #[(.agg #[.slice s_.2.1 s_.2.2.2.2.2.1.length s_.2.2.1, .slice s_.2.2.2.1 s_.2.2.2.2.2.2.1.length s_.2.2.2.2.1, .int .i64 s_.2.2.2.2.2.2.2.1, .int .i64 s_.2.2.2.2.2.2.2.2.1, .int .i64 s_.2.2.2.2.2.2.2.2.2.1]), .bool true]), (26, .tuple #[(.agg #[.slice s_.2.1 s_.2.2.2.2.2.1.length s_.2.2.1, .slice s_.2.2.2.1 s_.2.2.2.2.2.2.1.length s_.2.2.2.2.1, .int .i64 s_.2.2.2.2.2.2.2.1, .int .i64 s_.2.2.2.2.2.2.2.2.1, .int .i64 s_.2.2.2.2.2.2.2.2.2.1]), .bool true]), (34, (.agg #[.slice s_.2.1 s_.2.2.2.2.2.1.length s_.2.2.1, .slice s_.2.2.2.1 s_.2.2.2.2.2.2.1.length s_.2.2.2.2.1, .int .i64 s_.2.2.2.2.2.2.2.1, .int .i64 s_.2.2.2.2.2.2.2.2.1, .int .i64 s_.2.2.2.2.2.2.2.2.2.1])), (35, .bool true), (6, .pointer (some ⟨s_.2.2.2.2.2.2.2.2.2.2, 0, none⟩))]) (fun (s_ : NetS × Option Addr × Nat × Option Addr × Nat × List S60 × List S71 × Int × Int × Int × Nat) w' => Aside0 (MR w' w.heap.size (.slice s_.2.1 s_.2.2.2.2.2.1.length s_.2.2.1) (.slice s_.2.2.2.1 s_.2.2.2.2.2.2.1.length s_.2.2.2.2.1) s_.2.2.2.2.2.1 s_.2.2.2.2.2.2.1) ∧ Aside0 (Tr w w' g s_.1 []) ∧ Aside0 (w'.heap[b4]? = some (.cells #[.slice A0 l0.length c0, .slice A1 l1.length c1, .int .i64 a2, .int .i64 a3, .int .i64 a4] 41 (0, 0))) ∧ Aside0 (w'.heap[s_.2.2.2.2.2.2.2.2.2.2]? = some (.cells #[.slice none 0 0, .slice none 0 0, .int .i64 0, .int .i64 0, .int .i64 0] 41 (0, 0))) ∧ Aside0 (Rel s_.1 s_.2.2.2.2.2.1 s_.2.2.2.2.2.2.1 s_.2.2.2.2.2.2.2.1 s_.2.2.2.2.2.2.2.2.1 s_.2.2.2.2.2.2.2.2.2.1 ∧ s_.2.2.2.2.2.2.1.length ≤ i + 1) ∧ Aside0 (s_.2.2.2.2.2.2.2.2.2.2 ≠ b4) ∧ Aside0 (w.heap.size ≤ s_.2.2.2.2.2.2.2.2.2.2)) ?_ ?_
   rotate_left
   ·intro hCont
    refine two_ (i := 6) (j := 10) (Ni := some 33) (Nj := some 6) #[true, true, true, true, true, true, true, false, false, false, false, false, false] #[true, true, true, true, true, true, false, false, false, false, true, false, false] rfl rfl rfl rfl (by kernel_rfl) (by decide) (by decide) (fun K hK => ?_) (fun K hK => ?_)
    ·refine call_ 17 #[.pointer (some ⟨g, 0, none⟩), .agg #[.slice A0 l0.length c0, .slice A1 l1.length c1, .int .i64 a2, .int .i64 a3, .int .i64 a4], .agg #[.int .i64 x.f0, .int .i64 x.f1.f0, .int .i64 x.f1.f1, .string x.f1.f2, .int .i64 x.f2, .int .i64 x.f3]] (by rfl) rfl (by first | (go_simp; done) | (go_simp; rfl)) ?_
     refine (stowagelaw08_one.ok TD.out MD.out RR.out.1 (by have := RR.out.2; omega)).mono ?_
     rintro e w6 ⟨n', v0, v1, r1, r2, r3, r4, r5, rfl, hm, ht, ho, hr, hl⟩
     obtain ⟨A2, c2, A3, c3, rfl, rfl⟩ := hm.slices
     have B6 : Aside0 (w6.heap[b4]? = some (.cells #[.slice A0 l0.length c0, .slice A1 l1.length c1, .int .i64 a2, .int .i64 a3, .int .i64 a4] 41 (0, 0))) := ⟨ho.at_ BD.out (by decide)⟩
     have T6 := Aside0.mk ht
     have M6 := Aside0.mk hm
     have HL6 : Aside0 (Rel n' r1 r2 r3 r4 r5 ∧ r2.length ≤ i + 1) := ⟨hr, Nat.le_trans hl (Nat.succ_le_succ RR.out.2)⟩
     refine ⟨_, rfl, hK.out _ _ ⟨(blk_cell B6.out 0).trans rfl, (blk_cell B6.out 1).trans rfl, (blk_cell B6.out 2).trans rfl, (blk_cell B6.out 3).trans rfl, (blk_cell B6.out 4).trans rfl, (Below.cell (T6.out.1) (World.block_lt_of_cell? w _ HE0.out)).trans HE0.out, (Below.cell (T6.out.1) (World.block_lt_of_cell? w _ HE1.out)).trans HE1.out, (Below.cell (T6.out.1) (World.block_lt_of_cell? w _ HE2.out)).trans HE2.out, (Below.cell (T6.out.1) (World.block_lt_of_cell? w _ HE3.out)).trans HE3.out, (Below.cell (T6.out.1) (World.block_lt_of_cell? w _ HE4.out)).trans HE4.out, (Below.cell (T6.out.1) (World.block_lt_of_cell? w _ HE5.out)).trans HE5.out⟩ (fun hHeld => ?_)⟩
     clear hK K hm ht ho hr hl
     refine norm_ (a' := ?_) ?_ ?_
     rotate_left
     ·show Act.put _ (some 33) _ = _
      simp only [Act.put, List.setIfInBounds_toArray, List.set_cons_zero, List.set_cons_succ]
      rfl
     refine pure_ (i := 7) (N := some 26) (v := ?_) (a' := ?_) #[true, true, true, true, true, true, true, true, false, false, false, false, false] rfl rfl (by kernel_rfl) (fun _ _ _ h => h) (Or.inl ⟨by rfl, ?_⟩) ?_ ?_
     rotate_left
     ·intro w'
      go_simp
      with_reducible rfl
     rotate_left
     ·simp only [Act.put, List.setIfInBounds_toArray, List.set_cons_zero, List.set_cons_succ]
      rfl
     refine pure_ (i := 8) (N := some 34) (v := ?_) (a' := ?_) #[true, true, true, true, true, true, true, true, true, false, false, false, false] rfl rfl (by kernel_rfl) (fun _ _ _ h => h) (Or.inl ⟨by rfl, ?_⟩) ?_ ?_
     rotate_left
     ·intro w'
      go_simp
      with_reducible rfl
     rotate_left
     ·simp only [Act.put, List.setIfInBounds_toArray, List.set_cons_zero, List.set_cons_succ]
      rfl
     refine pure_ (i := 9) (N := some 35) (v := ?_) (a' := ?_) #[true, true, true, true, true, true, true, true, true, true, false, false, false] rfl rfl (by kernel_rfl) (fun _ _ _ h => h) (Or.inl ⟨by rfl, ?_⟩) ?_ ?_
     rotate_left
     ·intro w'
      go_simp
      with_reducible rfl
     rotate_left
     ·simp only [Act.put, List.setIfInBounds_toArray, List.set_cons_zero, List.set_cons_succ]
      rfl
     refine one_ (i := 10) (N := some 6) #[true, true, true, true, true, true, true, true, true, true, true, false, false] rfl rfl (by kernel_rfl) (by decide) (fun K hK => ?_)
     refine event_step (v := .pointer (some ⟨w6.heap.size, 0, none⟩)) (w1 := w6.alloc (.cells #[.slice none 0 0, .slice none 0 0, .int .i64 0, .int .i64 0, .int .i64 0] 41 (0, 0))) (by rfl) (by first | (go_simp; done) | (go_simp; rfl)) ?_
     have B7 : Aside0 ((w6.alloc (.cells #[.slice none 0 0, .slice none 0 0, .int .i64 0, .int .i64 0, .int .i64 0] 41 (0, 0))).heap[b4]? = some (.cells #[.slice A0 l0.length c0, .slice A1 l1.length c1, .int .i64 a2, .int .i64 a3, .int .i64 a4] 41 (0, 0))) := ⟨blk_alloc B6.out _⟩
     have T7 := Aside0.mk (T6.out.alloc (.cells #[.slice none 0 0, .slice none 0 0, .int .i64 0, .int .i64 0, .int .i64 0] 41 (0, 0)))
     refine hK.out _ _ ⟨(blk_cell B7.out 0).trans rfl, (blk_cell B7.out 1).trans rfl, (blk_cell B7.out 2).trans rfl, (blk_cell B7.out 3).trans rfl, (blk_cell B7.out 4).trans rfl, (Below.cell (T7.out.1) (World.block_lt_of_cell? w _ HE0.out)).trans HE0.out, (Below.cell (T7.out.1) (World.block_lt_of_cell? w _ HE1.out)).trans HE1.out, (Below.cell (T7.out.1) (World.block_lt_of_cell? w _ HE2.out)).trans HE2.out, (Below.cell (T7.out.1) (World.block_lt_of_cell? w _ HE3.out)).trans HE3.out, (Below.cell (T7.out.1) (World.block_lt_of_cell? w _ HE4.out)).trans HE4.out, (Below.cell (T7.out.1) (World.block_lt_of_cell? w _ HE5.out)).trans HE5.out⟩ (fun hHeld => ?_)
     clear hK K
     refine norm_ (a' := ?_) ?_ ?_
     rotate_left
     ·show Act.put _ (some 6) _ = _
      simp only [Act.put, List.setIfInBounds_toArray, List.set_cons_zero, List.set_cons_succ]
      rfl
     exact norm_ (by simp only [putAll, Act.put, List.setIfInBounds_toArray, List.set_cons_zero, List.set_cons_succ]) (hCont (n', A2, c2, A3, c3, r1, r2, r3, r4, r5, w6.heap.size) _ ⟨⟨M6.out.below (below_alloc (Below.refl w6.heap.size w6) _)⟩, T7, B7, ⟨heap_alloc_new w6 _⟩, HL6, ⟨by have := blk_lt B6.out; show w6.heap.size ≠ b4; omega⟩, ⟨T6.out.1.size⟩⟩)
    ·refine event_step (v := .pointer (some ⟨wd.heap.size, 0, none⟩)) (w1 := wd.alloc (.cells #[.slice none 0 0, .slice none 0 0, .int .i64 0, .int .i64 0, .int .i64 0] 41 (0, 0))) (by rfl) (by first | (go_simp; done) | (go_simp; rfl)) ?_
     have BE : Aside0 ((wd.alloc (.cells #[.slice none 0 0, .slice none 0 0, .int .i64 0, .int .i64 0, .int .i64 0] 41 (0, 0))).heap[b4]? = some (.cells #[.slice A0 l0.length c0, .slice A1 l1.length c1, .int .i64 a2, .int .i64 a3, .int .i64 a4] 41 (0, 0))) := ⟨blk_alloc BD.out _⟩
     have BZ : Aside0 ((wd.alloc (.cells #[.slice none 0 0, .slice none 0 0, .int .i64 0, .int .i64 0, .int .i64 0] 41 (0, 0))).heap[wd.heap.size]? = some (.cells #[.slice none 0 0, .slice none 0 0, .int .i64 0, .int .i64 0, .int .i64 0] 41 (0, 0))) := ⟨heap_alloc_new wd _⟩
     have TE := Aside0.mk (TD.out.alloc (.cells #[.slice none 0 0, .slice none 0 0, .int .i64 0, .int .i64 0, .int .i64 0] 41 (0, 0)))
     have ME := Aside0.mk (MD.out.below (below_alloc (Below.refl wd.heap.size wd) (.cells #[.slice none 0 0, .slice none 0 0, .int .i64 0, .int .i64 0, .int .i64 0] 41 (0, 0))))
     have NE6 : Aside0 (wd.heap.size ≠ b4) := ⟨by have := blk_lt BD.out; omega⟩
     have LE6 : Aside0 (w.heap.size ≤ wd.heap.size) := ⟨TD.out.1.size⟩
     refine hK.out _ _ ⟨(blk_cell BE.out 0).trans rfl, (blk_cell BE.out 1).trans rfl, (blk_cell BE.out 2).trans rfl, (blk_cell BE.out 3).trans rfl, (blk_cell BE.out 4).trans rfl, (Below.cell (TE.out.1) (World.block_lt_of_cell? w _ HE0.out)).trans HE0.out, (Below.cell (TE.out.1) (World.block_lt_of_cell? w _ HE1.out)).trans HE1.out, (Below.cell (TE.out.1) (World.block_lt_of_cell? w _ HE2.out)).trans HE2.out, (Below.cell (TE.out.1) (World.block_lt_of_cell? w _ HE3.out)).trans HE3.out, (Below.cell (TE.out.1) (World.block_lt_of_cell? w _ HE4.out)).trans HE4.out, (Below.cell (TE.out.1) (World.block_lt_of_cell? w _ HE5.out)).trans HE5.out⟩ (fun hHeld => ?_)
     clear hK K
     refine norm_ (a' := ?_) ?_ ?_
     rotate_left
     ·show Act.put _ (some 6) _ = _
      simp only [Act.put, List.setIfInBounds_toArray, List.set_cons_zero, List.set_cons_succ]
      rfl
     generalize wd.alloc (.cells #[.slice none 0 0, .slice none 0 0, .int .i64 0, .int .i64 0, .int .i64 0] 41 (0, 0)) = we at BE BZ TE ME hHeld ⊢
     generalize wd.heap.size = b6 at BZ NE6 LE6 ⊢
     refine one_ (i := 6) (N := some 33) #[true, true, true, true, true, true, true, false, false, false, true, false, false] rfl rfl (by kernel_rfl) (by decide) (fun K hK => ?_)
     refine call_ 17 #[.pointer (some ⟨g, 0, none⟩), .agg #[.slice A0 l0.length c0, .slice A1 l1.length c1, .int .i64 a2, .int .i64 a3, .int .i64 a4], .agg #[.int .i64 x.f0, .int .i64 x.f1.f0, .int .i64 x.f1.f1, .string x.f1.f2, .int .i64 x.f2, .int .i64 x.f3]] (by rfl) rfl (by first | (go_simp; done) | (go_simp; rfl)) ?_
     refine (stowagelaw08_one.ok TE.out ME.out RR.out.1 (by have := RR.out.2; omega)).mono ?_
     rintro e w6 ⟨n', v0, v1, r1, r2, r3, r4, r5, rfl, hm, ht, ho, hr, hl⟩
     obtain ⟨A2, c2, A3, c3, rfl, rfl⟩ := hm.slices
     have B6 : Aside0 (w6.heap[b4]? = some (.cells #[.slice A0 l0.length c0, .slice A1 l1.length c1, .int .i64 a2, .int .i64 a3, .int .i64 a4] 41 (0, 0))) := ⟨ho.at_ BE.out (by decide)⟩
     have T6 := Aside0.mk ht
     have M6 := Aside0.mk hm
     have HL6 : Aside0 (Rel n' r1 r2 r3 r4 r5 ∧ r2.length ≤ i + 1) := ⟨hr, Nat.le_trans hl (Nat.succ_le_succ RR.out.2)⟩
     have BZ6 : Aside0 (w6.heap[b6]? = some (.cells #[.slice none 0 0, .slice none 0 0, .int .i64 0, .int .i64 0, .int .i64 0] 41 (0, 0))) := ⟨ho.at_ BZ.out (by decide)⟩
     refine ⟨_, rfl, hK.out _ _ ⟨(blk_cell B6.out 0).trans rfl, (blk_cell B6.out 1).trans rfl, (blk_cell B6.out 2).trans rfl, (blk_cell B6.out 3).trans rfl, (blk_cell B6.out 4).trans rfl, (Below.cell (T6.out.1) (World.block_lt_of_cell? w _ HE0.out)).trans HE0.out, (Below.cell (T6.out.1) (World.block_lt_of_cell? w _ HE1.out)).trans HE1.out, (Below.cell (T6.out.1) (World.block_lt_of_cell? w _ HE2.out)).trans HE2.out, (Below.cell (T6.out.1) (World.block_lt_of_cell? w _ HE3.out)).trans HE3.out, (Below.cell (T6.out.1) (World.block_lt_of_cell? w _ HE4.out)).trans HE4.out, (Below.cell (T6.out.1) (World.block_lt_of_cell? w _ HE5.out)).trans HE5.out⟩ (fun hHeld => ?_)⟩
     clear hK K hm ht ho hr hl
     refine norm_ (a' := ?_) ?_ ?_
     rotate_left
     ·show Act.put _ (some 33) _ = _
      simp only [Act.put, List.setIfInBounds_toArray, List.set_cons_zero, List.set_cons_succ]
      rfl
     refine pure_ (i := 7) (N := some 26) (v := ?_) (a' := ?_) #[true, true, true, true, true, true, true, true, false, false, true, false, false] rfl rfl (by kernel_rfl) (fun _ _ _ h => h) (Or.inl ⟨by rfl, ?_⟩) ?_ ?_
     rotate_left
     ·intro w'
      go_simp
      with_reducible rfl
     rotate_left
     ·simp only [Act.put, List.setIfInBounds_toArray, List.set_cons_zero, List.set_cons_succ]
      rfl
     refine pure_ (i := 8) (N := some 34) (v := ?_) (a' := ?_) #[true, true, true, true, true, true, true, true, true, false, true, false, false] rfl rfl (by kernel_rfl) (fun _ _ _ h => h) (Or.inl ⟨by rfl, ?_⟩) ?_ ?_
     rotate_left
     ·intro w'
      go_simp
      with_reducible rfl
     rotate_left
     ·simp only [Act.put, List.setIfInBounds_toArray, List.set_cons_zero, List.set_cons_succ]
      rfl
     refine pure_ (i := 9) (N := some 35) (v := ?_) (a' := ?_) #[true, true, true, true, true, true, true, true, true, true, true, false, false] rfl rfl (by kernel_rfl) (fun _ _ _ h => h) (Or.inl ⟨by rfl, ?_⟩) ?_ ?_
     rotate_left
     ·intro w'
      go_simp
      with_reducible rfl
     rotate_left
     ·simp only [Act.put, List.setIfInBounds_toArray, List.set_cons_zero, List.set_cons_succ]
      rfl
     exact norm_ (by simp only [putAll, Act.put, List.setIfInBounds_toArray, List.set_cons_zero, List.set_cons_succ]) (hCont (n', A2, c2, A3, c3, r1, r2, r3, r4, r5, b6) _ ⟨M6, T6, B6, BZ6, HL6, NE6, LE6⟩)
   ·rintro ⟨n', A2, c2, A3, c3, r1, r2, r3, r4, r5, b6⟩ w7 ⟨M7, T7, B7, Z7, R7, N7, L7⟩
    dsimp only at M7 T7 B7 Z7 R7 N7 L7 ⊢
    refine norm_ (a' := ?_) ?_ ?_
    rotate_left
    ·simp only [putAll, Act.put, List.setIfInBounds_toArray, List.set_cons_zero, List.set_cons_succ]
     rfl
    refine last_ (i := 11) (N := none) #[true, true, true, true, true, true, true, true, true, true, true, true, false] rfl rfl (by kernel_rfl) (by decide) (fun K hK => ?_)
    have z6B := Z7.out
    have z60 := (blk_cell z6B 0).trans rfl
    have f60 := blk_frozen z6B 0
    have z61 := (blk_cell z6B 1).trans rfl
    have f61 := blk_frozen z6B 1
    have z62 := (blk_cell z6B 2).trans rfl
    have f62 := blk_frozen z6B 2
    have z63 := (blk_cell z6B 3).trans rfl
    have f63 := blk_frozen z6B 3
    have z64 := (blk_cell z6B 4).trans rfl
    have f64 := blk_frozen z6B 4
    refine skip_ (w1 := ?_) (by rfl) rfl ?_ ?_
    rotate_left
    ·go_simp
     rfl
    refine hK.out _ _ ?_
    clear hK K z60 f60 z61 f61 z62 f62 z63 f63 z64 f64
    refine pure_ (i := 12) (N := some 7) (v := ?_) (a' := ?_) #[true, true, true, true, true, true, true, true, true, true, true, true, true] rfl rfl (by kernel_rfl) (fun _ _ _ h => h) (Or.inl ⟨by rfl, ?_⟩) ?_ ?_
    rotate_left
    ·intro w'
     go_simp
     with_reducible rfl
    rotate_left
    ·simp only [Act.put, List.setIfInBounds_toArray, List.set_cons_zero, List.set_cons_succ]
     rfl
    refine done_ (by kernel_rfl) ?_
    have e5 : set5 w7 b6 (.slice A2 r1.length c2) (.slice A3 r2.length c3) (.int .i64 r3) (.int .i64 r4) (.int .i64 r5) = ((((w7.setCell ⟨b6, 0, none⟩ (.slice A2 r1.length c2)).setCell ⟨b6, 1, none⟩ (.slice A3 r2.length c3)).setCell ⟨b6, 2, none⟩ (.int .i64 r3)).setCell ⟨b6, 3, none⟩ (.int .i64 r4)).setCell ⟨b6, 4, none⟩ (.int .i64 r5) := rfl
    rw [← e5]
    have T8 : Aside0 (Tr w (set5 w7 b6 (.slice A2 r1.length c2) (.slice A3 r2.length c3) (.int .i64 r3) (.int .i64 r4) (.int .i64 r5)) g n' []) := ⟨Tr.set5 (T7.out.addT z6B (by decide)) (List.mem_singleton.2 rfl) L7.out _ _ _ _ _⟩
    have M8 : Aside0 (MR (set5 w7 b6 (.slice A2 r1.length c2) (.slice A3 r2.length c3) (.int .i64 r3) (.int .i64 r4) (.int .i64 r5)) w.heap.size (.slice A2 r1.length c2) (.slice A3 r2.length c3) r1 r2) := ⟨M7.out.far z6B (by decide) (by decide) (fun k hk => set5_far w7 b6 _ _ _ _ _ k hk)⟩
    have Z8 : Aside0 ((set5 w7 b6 (.slice A2 r1.length c2) (.slice A3 r2.length c3) (.int .i64 r3) (.int .i64 r4) (.int .i64 r5)).heap[b6]? = some (.cells #[.slice A2 r1.length c2, .slice A3 r2.length c3, .int .i64 r3, .int .i64 r4, .int .i64 r5] 41 (0, 0))) := ⟨set5_at w7 b6 _ _ _ _ _ _ _ _ _ _ z6B⟩
    have B8 : Aside0 ((set5 w7 b6 (.slice A2 r1.length c2) (.slice A3 r2.length c3) (.int .i64 r3) (.int .i64 r4) (.int .i64 r5)).heap[b4]? = some (.cells #[.slice A0 l0.length c0, .slice A1 l1.length c1, .int .i64 a2, .int .i64 a3, .int .i64 a4] 41 (0, 0))) := ⟨(set5_far w7 b6 _ _ _ _ _ b4 (Ne.symm N7.out)).trans B7.out⟩
    clear e5 z6B Z7 M7 T7 B7
    generalize set5 w7 b6 (.slice A2 r1.length c2) (.slice A3 r2.length c3) (.int .i64 r3) (.int .i64 r4) (.int .i64 r5) = w8 at T8 M8 Z8 B8 ⊢
    obtain ⟨⟨el, ea, eb, ec, ecut⟩, hll⟩ := R7.out
    subst el ea eb ec
    have z80 := (blk_cell Z8.out 0).trans rfl
    have z81 := (blk_cell Z8.out 1).trans rfl
    have z82 := (blk_cell Z8.out 2).trans rfl
    have z83 := (blk_cell Z8.out 3).trans rfl
    have z84 := (blk_cell Z8.out 4).trans rfl
    go_wp2_with (fail)
    refine (stowagelaw08_says.calls T8.out M8.out).mono ?_
    rintro e w9 ⟨rfl, hb⟩
    have T9 := Aside0.mk (T8.out.below hb)
    have M9 := Aside0.mk (M8.out.below hb)
    have Z9 := blk_below Z8.out hb
    have B9 := blk_below B8.out hb
    clear hb T8 M8 Z8 B8 z80 z81 z82 z83 z84
    have z90 := (blk_cell Z9 0).trans rfl
    have y90 := (blk_cell B9 0).trans rfl
    have f90 := blk_frozen B9 0
    have z91 := (blk_cell Z9 1).trans rfl
    have y91 := (blk_cell B9 1).trans rfl
    have f91 := blk_frozen B9 1
    have z92 := (blk_cell Z9 2).trans rfl
    have y92 := (blk_cell B9 2).trans rfl
    have f92 := blk_frozen B9 2
    have z93 := (blk_cell Z9 3).trans rfl
    have y93 := (blk_cell B9 3).trans rfl
    have f93 := blk_frozen B9 3
    have z94 := (blk_cell Z9 4).trans rfl
    have y94 := (blk_cell B9 4).trans rfl
    have f94 := blk_frozen B9 4
    have HB9 := Aside0.mk B9
    have HE := Aside0.mk ecut
    have n46 := N7.out
    have n64 := Ne.symm N7.out
    clear Z9 B9 ecut
    go_wp2
    go_roundg (N - (i + 1))
    case measure => omega
    case rel =>
     exact ⟨i + 1, n', A2, c2, A3, c3, n'.l, r2, n'.a, n'.b, n'.c, by simp, by omega, Nat.le_refl _, ⟨Tr.set5 (T9.out.addT HB9.out (by decide)) (List.mem_singleton.2 rfl) L4.out _ _ _ _ _⟩, ⟨M9.out.far HB9.out (by decide) (by decide) (fun k hk => set5_far w9 b4 _ _ _ _ _ k hk)⟩, ⟨set5_at w9 b4 _ _ _ _ _ _ _ _ _ _ HB9.out⟩, ⟨⟨rfl, rfl, rfl, rfl, HE.out⟩, hll⟩⟩
  ·have hF : ¬ ((i : Int) < (m : Int) ∧ (i : Int) < 80) := by omega
   by_cases h1 : (i : Int) < (m : Int)
   ·have h80 : decide ((i : Int) < 80) = false := decide_eq_false (by omega)
    clear hlt hF
    go_wp2
    go_ret
    exact ⟨rfl, TR.out.1⟩
   ·clear hlt hF
    go_wp2
    go_ret
    exact ⟨rfl, TR.out.1⟩
end Go.Proofs.Ytodkackgdchocaa.Q
namespace Go.Proofs.Ytodkackgdchocaa.Walks
open Go.RowKit Go.Proofs.Ytodkackgdchocaa.Q Go.Proofs.YtodkackgdchocaaW.PrintWords Go.Proofs.YtodkackgdchocaaW.PrintLast Go.Proofs.YtodkackgdchocaaW.PrintMore
set_option linter.unusedVariables false
theorem WiresPlays (W : World) (A0 : Option Addr) (c0 : Nat) (a0 : (List K.S45)) (l0 : a0.length ≤ c0) (C0 : Kd.C K.k45 W A0 a0.length a0) (g0 : (a0.length * 56 ≤ 140737488351232 ∧ ∀ y0 ∈ a0, ((Lit.int .i64 y0.f0).wf = true ∧ (((Lit.int .i64 y0.f1.f0).wf = true ∧ ((Lit.int .i64 y0.f1.f1).wf = true ∧ y0.f1.f2.size ≤ 140737488351232)) ∧ ((Lit.int .i64 y0.f2).wf = true ∧ (Lit.int .i64 y0.f3).wf = true))))) :
  Calls Try.prog 6 #[.slice A0 a0.length c0] W fun e w' => e = .returned (.bool true) ∧ Below W.heap.size W w' := stowagelaw08_WiresPlays.calls A0 c0 a0 W C0 l0
end Go.Proofs.Ytodkackgdchocaa.Walks
