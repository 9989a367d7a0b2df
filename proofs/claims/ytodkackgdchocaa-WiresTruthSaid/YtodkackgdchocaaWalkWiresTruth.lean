/- WiresTruth answers true at every input: nothing comes that was not sent; what was sent is under way, taken or lost. -/
import Derived.Test.YtodkackgdchocaaOneT
import Derived.Test.YtodkackgdchocaaKindsWiresTruth
namespace Go.Proofs.Ytodkackgdchocaa.Q
open Go.RowKit Go.Proofs.YtodkackgdchocaaW.PrintWords Go.Proofs.YtodkackgdchocaaW.PrintLast Go.Proofs.YtodkackgdchocaaW.PrintMore
set_option linter.unusedVariables false
set_option linter.unusedSimpArgs false
set_option maxHeartbeats 8000000
set_option maxRecDepth 10000
def z45 : K.S45 := ⟨0, ⟨0, 0, ⟨#[]⟩⟩, 0, 0⟩
theorem k45_open {w : World} {x : K.S45} {cs : List Value} (h : K.k45.K w x cs) : cs = [.int .i64 x.f0, .int .i64 x.f1.f0, .int .i64 x.f1.f1, .string x.f1.f2, .int .i64 x.f2, .int .i64 x.f3] := by
 obtain ⟨_, _, rfl, rfl, ⟨_, _, rfl, ⟨_, _, rfl, rfl, ⟨_, _, rfl, rfl, rfl⟩⟩, ⟨_, _, rfl, rfl, rfl⟩⟩⟩ := h
 exact rfl
theorem at_T45 {w W : World} {A : Option Addr} {xs : List K.S45} (h : Kd.C K.k45 w A xs.length xs) (hb : Below w.heap.size w W) (i : Nat) (h1 : i < xs.length) : ∃ ad x, A = some ad ∧ x = xs.getD i z45 ∧ W.cell? (ad.add (i * 6)) = some (.int .i64 x.f0) ∧ W.cell? ⟨(ad.add (i * 6)).block, (ad.add (i * 6)).off + 1, none⟩ = some (.int .i64 x.f1.f0) ∧ W.cell? ⟨(ad.add (i * 6)).block, (ad.add (i * 6)).off + 2, none⟩ = some (.int .i64 x.f1.f1) ∧ W.cell? ⟨(ad.add (i * 6)).block, (ad.add (i * 6)).off + 3, none⟩ = some (.string x.f1.f2) ∧ W.cell? ⟨(ad.add (i * 6)).block, (ad.add (i * 6)).off + 4, none⟩ = some (.int .i64 x.f2) ∧ W.cell? ⟨(ad.add (i * 6)).block, (ad.add (i * 6)).off + 5, none⟩ = some (.int .i64 x.f3) := by
 obtain ⟨ad, c, e, _, hK, hc0⟩ := Kd.C_get h z45 (i : Int) (by omega) (by omega)
 have hc : ∀ j u, c[j]? = some u → W.cell? (ad.add (i * 6 + j)) = some u := fun j u hu => by
  have := hc0 j u hu
  exact (hb.cell (World.block_lt_of_cell? w _ this)).trans this
 obtain rfl := k45_open hK
 exact ⟨ad, xs.getD i z45, e, rfl, hc 0 _ rfl, by rw [← add_field _ _ 1 (by omega)]; exact hc 1 _ rfl, by rw [← add_field _ _ 2 (by omega)]; exact hc 2 _ rfl, by rw [← add_field _ _ 3 (by omega)]; exact hc 3 _ rfl, by rw [← add_field _ _ 4 (by omega)]; exact hc 4 _ rfl, by rw [← add_field _ _ 5 (by omega)]; exact hc 5 _ rfl⟩
theorem Tr.addT {w0 w : World} {g : Nat} {n : NetS} {k : Nat} {cs : Array Value} {t : TypeId} (h : Tr w0 w g n []) (hk : w.heap[k]? = some (.cells cs t (0, 0))) (h1 : t ≠ 56 ∧ t ≠ 27) : Tr w0 w g n [(k, .cells cs t (0, 0))] := by
 obtain ⟨h0, v, hN, _⟩ := h
 refine ⟨h0, v, hN, fun q hq => ?_⟩
 obtain rfl := List.mem_singleton.1 hq
 refine ⟨hk, fun e => ?_, fun e => ?_⟩
 ·subst e
  have := hN.blk
  rw [hk] at this
  injection this with this
  injection this with _ e _
  exact h1.1 e
 ·obtain ⟨cs', hc⟩ := own_typed hN.row k e.symm
  rw [hk] at hc
  injection hc with hc
  injection hc with _ e _
  exact h1.2 e
theorem mem_take_succ {l : List S60} {k : Nat} {p : S60} (hk : k < l.length) (h : p ∈ l.take (k + 1)) : p ∈ l.take k ∨ p = l.getD k z60 := by
 rw [List.take_add_one, List.mem_append] at h
 rcases h with h | h
 ·exact .inl h
 ·right
  rw [List.getElem?_eq_getElem hk] at h
  rw [List.getD_eq_getElem?_getD, List.getElem?_eq_getElem hk]
  exact List.mem_singleton.1 h
theorem stowagelaw08_WiresTruth.calls (A : Option Addr) (c : Nat) (l : List K.S45) (w : World) (C : Kd.C K.k45 w A l.length l) (hc : l.length ≤ c) :
  Calls Try.prog 7 #[.slice A l.length c] w fun e w' => e = .returned (.bool true) ∧ Below w.heap.size w w' := by
 obtain ⟨m, hm⟩ : ∃ m, m = l.length := ⟨_, rfl⟩
 have HC := Aside0.mk C
 have HM := Aside0.mk hm
 have hmc : m ≤ c := by omega
 rw [← hm]
 clear C hm hc
 go_enter Try.func7, Try.ntmps7
 go_wp2_with (fail)
 refine (T_New (w0 := w) (bs := []) (Below.refl _ _) (fun q hq => by cases hq)).mono ?_
 rintro e w1 ⟨g, rfl, hT, hg, hb⟩
 have T1 := Aside0.mk hT
 clear hT hg hb
 go_wp2_with (fail)
 refine (stowagelaw08_awake.calls w1).mono ?_
 rintro e w2 ⟨rfl, hb⟩
 have T2 := Aside0.mk ((T1.out.below hb).push (.cells #[.slice none 0 0, .slice none 0 0, .int .i64 0, .int .i64 0, .int .i64 0] 41 (0, 0)))
 clear hb T1
 obtain ⟨N, hN⟩ : ∃ N, N = 100 := ⟨_, rfl⟩
 go_upto_region 5 with (fail)
 generalize w2.alloc (.cells #[.slice none 0 0, .slice none 0 0, .int .i64 0, .int .i64 0, .int .i64 0] 41 (0, 0)) = w3 at T2 ⊢
 generalize w2.heap.size = b4 at T2 ⊢
 go_wp2
 go_loopg [5, 6] N (fun gg s5 s6 wr => ∃ (i : Nat) (n : NetS) (sl : List S60) (bs : List (Nat × Obj)), s6 = .int .i64 (i : Int) ∧ i ≤ N ∧ N - i ≤ gg ∧ Aside0 (Tr w wr g n bs) ∧ Aside0 (SV wr w.heap.size s5 sl bs) ∧ Aside0 ((b4, Obj.cells #[.slice none 0 0, .slice none 0 0, .int .i64 0, .int .i64 0, .int .i64 0] 41 (0, 0)) ∈ bs) ∧ Aside0 (InvT i n sl) ∧ Aside0 (sl.length ≤ i))
 case atStart => exact ⟨0, net0, [], [(b4, .cells #[.slice none 0 0, .slice none 0 0, .int .i64 0, .int .i64 0, .int .i64 0] 41 (0, 0))], rfl, Nat.zero_le _, Nat.le_refl _, T2, ⟨⟨own_nil _ _ _ _, fun k hk => by simp [Value.ownBlock] at hk, fun q hq => by obtain rfl := List.mem_singleton.1 hq; exact NotM.of (by decide) (by decide)⟩⟩, ⟨List.mem_singleton.2 rfl⟩, ⟨⟨rfl, Int.le_refl _, Int.le_refl _, Int.le_refl _, fun p hp => by cases hp⟩⟩, ⟨Nat.le_refl _⟩⟩
 case round =>
  obtain ⟨i, n, sl, bs, rfl, hiN, hgg, TR, SR, BR, IR, LR⟩ := hrel
  clear T2
  by_cases hlt : i < m ∧ i < N
  ·obtain ⟨hlt, hltN⟩ := hlt
   have hlz : (i : Int) < (m : Int) := by omega
   have hl0 : (0 : Int) ≤ (i : Int) := by omega
   have h80 : decide ((i : Int) < 100) = true := decide_eq_true (by omega)
   obtain ⟨ad, x, hA, hx, hE0, hE1, hE2, hE3, hE4, hE5⟩ := at_T45 HC.out TR.out.1 i (by rw [← HM.out]; exact hlt)
   subst hA
   clear hx
   have T4 := Aside0.mk (TR.out.push (.cells #[.int .i64 x.f0, .int .i64 x.f1.f0, .int .i64 x.f1.f1, .string x.f1.f2, .int .i64 x.f2, .int .i64 x.f3] 45 (0, 0)))
   have N4 : Aside0 (∀ q ∈ (wr.heap.size, Obj.cells #[.int .i64 x.f0, .int .i64 x.f1.f0, .int .i64 x.f1.f1, .string x.f1.f2, .int .i64 x.f2, .int .i64 x.f3] 45 (0, 0)) :: bs, NotM q.2) := ⟨fun q hq => by
    rcases List.mem_cons.1 hq with rfl | hq
    ·exact NotM.of (by decide) (by decide)
    ·exact SR.out.2.2 q hq⟩
   have S4 := Aside0.mk ((SR.out.move (bs' := []) TR.out (TR.out.alloc (.cells #[.int .i64 x.f0, .int .i64 x.f1.f0, .int .i64 x.f1.f1, .string x.f1.f2, .int .i64 x.f2, .int .i64 x.f3] 45 (0, 0)))).sub (bs' := (wr.heap.size, Obj.cells #[.int .i64 x.f0, .int .i64 x.f1.f0, .int .i64 x.f1.f1, .string x.f1.f2, .int .i64 x.f2, .int .i64 x.f3] 45 (0, 0)) :: bs) (fun q hq => List.mem_cons_of_mem _ hq) N4.out)
   have B4 : Aside0 ((b4, Obj.cells #[.slice none 0 0, .slice none 0 0, .int .i64 0, .int .i64 0, .int .i64 0] 41 (0, 0)) ∈ bs) := BR
   obtain ⟨A5, c5, e5⟩ := own_slice SR.out.1
   subst e5
   clear TR SR BR
   go_upto_region 10 with (fail)
   clear hE0 hE1 hE2 hE3 hE4 hE5
   generalize wr.alloc (.cells #[.int .i64 x.f0, .int .i64 x.f1.f0, .int .i64 x.f1.f1, .string x.f1.f2, .int .i64 x.f2, .int .i64 x.f3] 45 (0, 0)) = w4 at T4 S4 ⊢
   generalize wr.heap.size = b7 at T4 S4 N4 ⊢
   have d7B : w4.heap[b7]? = some (.cells #[.int .i64 x.f0, .int .i64 x.f1.f0, .int .i64 x.f1.f1, .string x.f1.f2, .int .i64 x.f2, .int .i64 x.f3] 45 (0, 0)) := T4.out.mem List.mem_cons_self
   have d70 := (blk_cell d7B 0).trans rfl
   have d71 := (blk_cell d7B 1).trans rfl
   have d72 := (blk_cell d7B 2).trans rfl
   have d73 := (blk_cell d7B 3).trans rfl
   have d74 := (blk_cell d7B 4).trans rfl
   have d75 := (blk_cell d7B 5).trans rfl
   clear d7B
   by_cases hk1 : x.f0 = 1
   ·have q1 : (x.f0 == 1) = true := beq_iff_eq.mpr hk1
    clear hk1
    go_wp2_with (fail)
    refine (T_Take x.f2 T4.out).mono ?_
    have hIT := IR.out.take (by omega) x.f2
    generalize n.take x.f2 = r at hIT ⊢
    obtain ⟨n', p, t⟩ := r
    dsimp only at hIT ⊢
    rintro e w5 ⟨rfl, hT, hkt⟩
    have T5 := Aside0.mk (hT.push (.cells #[.int .i64 p.f0, .int .i64 p.f1, .string p.f2] 27 (0, 0)))
    have S5 := Aside0.mk ((S4.out.move (bs' := []) T4.out hT).move (bs' := []) hT (hT.alloc (.cells #[.int .i64 p.f0, .int .i64 p.f1, .string p.f2] 27 (0, 0))))
    have HI := Aside0.mk hIT
    clear hT hkt T4 S4 d70 d71 d72 d73 d74 d75 hIT
    go_upto_region 13 with (fail)
    generalize w5.alloc (.cells #[.int .i64 p.f0, .int .i64 p.f1, .string p.f2] 27 (0, 0)) = w6 at T5 S5 ⊢
    generalize w5.heap.size = b8 at T5 ⊢
    have d8B : w6.heap[b8]? = some (.cells #[.int .i64 p.f0, .int .i64 p.f1, .string p.f2] 27 (0, 0)) := T5.out.mem List.mem_cons_self
    clear d8B
    obtain ⟨M, hM⟩ : ∃ M, M = sl.length := ⟨_, rfl⟩
    have hMI : M ≤ i := by rw [hM]; exact LR.out
    have HMM := Aside0.mk hM
    rw [← hM]
    clear hM
    go_wp2_with (fail)
    go_loopg [10, 11] M (fun gg s10 s11 wq => ∃ (kb : Bool) (k : Nat), s10 = .bool kb ∧ s11 = .int .i64 (k : Int) ∧ k ≤ M ∧ M - k ≤ gg ∧ Aside0 (t = false → kb = true) ∧ Aside0 (p ∈ sl.take k → kb = true) ∧ Aside0 (Tr w wq g n' ((b8, .cells #[.int .i64 p.f0, .int .i64 p.f1, .string p.f2] 27 (0, 0)) :: (b7, .cells #[.int .i64 x.f0, .int .i64 x.f1.f0, .int .i64 x.f1.f1, .string x.f1.f2, .int .i64 x.f2, .int .i64 x.f3] 45 (0, 0)) :: bs)) ∧ Aside0 (SV wq w.heap.size (.slice A5 M c5) sl ((b7, .cells #[.int .i64 x.f0, .int .i64 x.f1.f0, .int .i64 x.f1.f1, .string x.f1.f2, .int .i64 x.f2, .int .i64 x.f3] 45 (0, 0)) :: bs)))
    case atStart => exact ⟨!t, 0, rfl, rfl, Nat.zero_le _, Nat.le_refl _, ⟨fun h => by rw [h]; rfl⟩, ⟨fun h => by simp at h⟩, T5, by rw [HMM.out]; exact S5⟩
    case round =>
     obtain ⟨kb, k, rfl, rfl, hkM, hgg2, R1, R2, TI, SI⟩ := hrel
     clear T5 S5
     by_cases hkm : k < M
     ·have hkz : (k : Int) < (M : Int) := by omega
      have hk0 : (0 : Int) ≤ (k : Int) := by omega
      obtain ⟨ad5, c5', e5, -, -⟩ := World.ownsRow.form SI.out.1 (by rw [← HMM.out]; omega)
      have e5' : A5 = some ⟨ad5, 0, none⟩ ∧ c5 = c5' := by
       injection e5 with e1 e2 e3
       exact ⟨e1, e3⟩
      obtain ⟨rfl, rfl⟩ := e5'
      clear e5
      have hrow := SI.out.1
      rw [HMM.out] at hrow
      obtain ⟨hc0, hc1, hc2⟩ := row_elem hrow (i := k) (by rw [← HMM.out]; exact hkm)
      clear hrow
      obtain ⟨q, hq⟩ : ∃ q, q = sl.getD k z60 := ⟨_, rfl⟩
      rw [← hq] at hc0 hc1 hc2
      have HQ := Aside0.mk hq
      clear hq
      have d8B : wr.heap[b8]? = some (.cells #[.int .i64 p.f0, .int .i64 p.f1, .string p.f2] 27 (0, 0)) := TI.out.mem List.mem_cons_self
      have d80 := (blk_cell d8B 0).trans rfl
      have d81 := (blk_cell d8B 1).trans rfl
      have d82 := (blk_cell d8B 2).trans rfl
      clear d8B
      cases kb
      ·go_upto_region 16 with (fail)
       by_cases w0 : q.f0 = p.f0
       ·have v0 : (q.f0 == p.f0) = true := beq_iff_eq.mpr w0
        have W0 := Aside0.mk w0
        clear w0
        by_cases w1 : q.f1 = p.f1
        ·have v1 : (q.f1 == p.f1) = true := beq_iff_eq.mpr w1
         have W1 := Aside0.mk w1
         clear w1
         by_cases w2 : q.f2.toList = p.f2.toList
         ·have v2 : (q.f2.toList == p.f2.toList) = true := beq_iff_eq.mpr w2
          have W2 := Aside0.mk w2
          clear w2
          go_quiet (fail)
          go_wp2
          go_roundg (M - (k + 1))
          case measure => omega
          case rel => exact ⟨_, k + 1, rfl, by simp, by omega, Nat.le_refl _, ⟨fun _ => rfl⟩, ⟨fun h => by rfl⟩, ⟨TI.out.drewN nq⟩, ⟨SI.out.move (bs' := []) (TI.out.sub (fun q hq => List.mem_cons_of_mem _ hq)) ((TI.out.drewN nq).sub (fun q hq => List.mem_cons_of_mem _ hq))⟩⟩
         ·have v2 : (q.f2.toList == p.f2.toList) = false := beq_eq_false_iff_ne.mpr w2
          have W2 := Aside0.mk w2
          clear w2
          go_quiet (fail)
          go_wp2
          have hR2 : p ∈ sl.take (k + 1) → false = true := fun h => by
           rcases mem_take_succ (by rw [← HMM.out]; exact hkm) h with h | h
           ·exact R2.out h
           ·exact absurd (by rw [h, HQ.out]) W2.out
          go_roundg (M - (k + 1))
          case measure => omega
          case rel => exact ⟨_, k + 1, rfl, by simp, by omega, Nat.le_refl _, R1, ⟨hR2⟩, ⟨TI.out.drewN nq⟩, ⟨SI.out.move (bs' := []) (TI.out.sub (fun q hq => List.mem_cons_of_mem _ hq)) ((TI.out.drewN nq).sub (fun q hq => List.mem_cons_of_mem _ hq))⟩⟩
        ·have v1 : (q.f1 == p.f1) = false := beq_eq_false_iff_ne.mpr w1
         have W1 := Aside0.mk w1
         clear w1
         go_quiet (fail)
         go_wp2
         have hR2 : p ∈ sl.take (k + 1) → false = true := fun h => by
          rcases mem_take_succ (by rw [← HMM.out]; exact hkm) h with h | h
          ·exact R2.out h
          ·exact absurd (by rw [h, HQ.out]) W1.out
         go_roundg (M - (k + 1))
         case measure => omega
         case rel => exact ⟨_, k + 1, rfl, by simp, by omega, Nat.le_refl _, R1, ⟨hR2⟩, ⟨TI.out.drewN nq⟩, ⟨SI.out.move (bs' := []) (TI.out.sub (fun q hq => List.mem_cons_of_mem _ hq)) ((TI.out.drewN nq).sub (fun q hq => List.mem_cons_of_mem _ hq))⟩⟩
       ·have v0 : (q.f0 == p.f0) = false := beq_eq_false_iff_ne.mpr w0
        have W0 := Aside0.mk w0
        clear w0
        go_quiet (fail)
        go_wp2
        have hR2 : p ∈ sl.take (k + 1) → false = true := fun h => by
         rcases mem_take_succ (by rw [← HMM.out]; exact hkm) h with h | h
         ·exact R2.out h
         ·exact absurd (by rw [h, HQ.out]) W0.out
        go_roundg (M - (k + 1))
        case measure => omega
        case rel => exact ⟨_, k + 1, rfl, by simp, by omega, Nat.le_refl _, R1, ⟨hR2⟩, ⟨TI.out.drewN nq⟩, ⟨SI.out.move (bs' := []) (TI.out.sub (fun q hq => List.mem_cons_of_mem _ hq)) ((TI.out.drewN nq).sub (fun q hq => List.mem_cons_of_mem _ hq))⟩⟩
      ·go_upto_region 16 with (fail)
       go_quiet (fail)
       go_wp2
       go_roundg (M - (k + 1))
       case measure => omega
       case rel => exact ⟨_, k + 1, rfl, by simp, by omega, Nat.le_refl _, ⟨fun _ => rfl⟩, ⟨fun h => by rfl⟩, ⟨TI.out.drewN nq⟩, ⟨SI.out.move (bs' := []) (TI.out.sub (fun q hq => List.mem_cons_of_mem _ hq)) ((TI.out.drewN nq).sub (fun q hq => List.mem_cons_of_mem _ hq))⟩⟩
     ·have hkz : ¬ (k : Int) < (M : Int) := by omega
      have hkb : kb = true := by
       cases t with
       | false => exact R1.out rfl
       | true =>
        refine R2.out ?_
        have hk : k = sl.length := by rw [← HMM.out]; omega
        rw [hk, List.take_length]
        exact HI.out.2 rfl
      subst hkb
      have SQ := Aside0.mk (SI.out.sub (bs' := (b8, Obj.cells #[.int .i64 p.f0, .int .i64 p.f1, .string p.f2] 27 (0, 0)) :: (b7, Obj.cells #[.int .i64 x.f0, .int .i64 x.f1.f0, .int .i64 x.f1.f1, .string x.f1.f2, .int .i64 x.f2, .int .i64 x.f3] 45 (0, 0)) :: bs) (fun q hq => List.mem_cons_of_mem _ hq) (fun q hq => by
       rcases List.mem_cons.1 hq with rfl | hq
       ·exact NotM.of (by decide) (by decide)
       ·exact SI.out.2.2 q hq))
      go_wp2
      go_roundg (N - (i + 1))
      case measure => omega
      case rel => exact ⟨i + 1, n', sl, _, by simp, by omega, Nat.le_refl _, TI, SQ, ⟨List.mem_cons_of_mem _ (List.mem_cons_of_mem _ B4.out)⟩, ⟨HI.out.1⟩, ⟨Nat.le_succ_of_le LR.out⟩⟩
   ·have q1 : (x.f0 == 1) = false := beq_eq_false_iff_ne.mpr hk1
    have HK1 := Aside0.mk hk1
    clear hk1
    by_cases hk0 : x.f0 = 0
    ·have q0 : (x.f0 == 0) = true := beq_iff_eq.mpr hk0
     go_upto_region 20 with (fail)
     obtain ⟨i27, hi, hz0, hz1, hz2⟩ := info_parts info27
     have SA : Aside0 (SV (w4.alloc (.cells #[.int .i64 x.f1.f0, .int .i64 x.f1.f1, .string x.f1.f2] 27)) w.heap.size (.slice A5 sl.length c5) sl _) := ⟨S4.out.move (bs' := []) T4.out (T4.out.alloc (.cells #[.int .i64 x.f1.f0, .int .i64 x.f1.f1, .string x.f1.f2] 27))⟩
     have TA := Aside0.mk (T4.out.alloc (.cells #[.int .i64 x.f1.f0, .int .i64 x.f1.f1, .string x.f1.f2] 27))
     have hsl := LR.out
     go_upto_region 21 with (at_builtin; refine wpList_append_lies _ rfl _ _ _ rfl w.heap.size 27 i27 _ 3 32 Try.underlying48 hi hz0 hz1 hz2 rfl (by omega) (.slice A5 sl.length c5) sl.length (pks sl) (by rfl) SA.out.1 ⟨w4.heap.size, 0, none⟩ 1 1 (pk ⟨x.f1.f0, x.f1.f1, x.f1.f2⟩) (by rfl) (by rfl) (World.news_of_block (heap_alloc_new w4 _)) (pk_oneCell _) (by omega) (by simp [maxLen]; omega) (by omega) TA.out.1.size _ rfl ?_; intro gn cap w6 hown2 hgrow hat hlt2)
     obtain ⟨bq, hTQ, hSQ, hexq⟩ := Tr.appendSent (sv2 := .slice (some ⟨gn, 0, none⟩) (sl.length + 1) cap) (sl2 := sl ++ [⟨x.f1.f0, x.f1.f1, x.f1.f2⟩]) TA.out SA.out (ex := [(b7, .cells #[.int .i64 x.f0, .int .i64 x.f1.f0, .int .i64 x.f1.f1, .string x.f1.f2, .int .i64 x.f2, .int .i64 x.f3] 45 (0, 0)), (b4, .cells #[.slice none 0 0, .slice none 0 0, .int .i64 0, .int .i64 0, .int .i64 0] 41 (0, 0))]) (by
      intro q hq
      rcases List.mem_cons.1 hq with rfl | hq
      ·exact ⟨List.mem_cons_self, _, _, rfl, by decide, by decide, by decide⟩
      ·obtain rfl := List.mem_singleton.1 hq
       exact ⟨List.mem_cons_of_mem _ B4.out, _, _, rfl, by decide, by decide, by decide⟩) hgrow (by rw [pks_append, List.length_append, List.length_singleton]; exact hown2) (by
      intro k hk
      have hk : some gn = some k := hk
      injection hk with hk
      subst hk
      rcases hat with e | e
      ·exact .inl e
      ·exact .inr (Nat.le_of_eq e.symm))
     have TQ := Aside0.mk hTQ
     have SQ := Aside0.mk hSQ
     have X4 := Aside0.mk (hexq _ (List.mem_cons_of_mem _ List.mem_cons_self))
     have L4 := Aside0.mk (show (sl ++ [(⟨x.f1.f0, x.f1.f1, x.f1.f2⟩ : S60)]).length ≤ i + 1 by rw [List.length_append, List.length_singleton]; omega)
     have d7B : w6.heap[b7]? = some (.cells #[.int .i64 x.f0, .int .i64 x.f1.f0, .int .i64 x.f1.f1, .string x.f1.f2, .int .i64 x.f2, .int .i64 x.f3] 45 (0, 0)) := hTQ.mem (hexq _ List.mem_cons_self)
     clear d70 d71 d72 d73 d74 d75 
     have d70 := (blk_cell d7B 0).trans rfl
     have d71 := (blk_cell d7B 1).trans rfl
     have d72 := (blk_cell d7B 2).trans rfl
     have d73 := (blk_cell d7B 3).trans rfl
     have d74 := (blk_cell d7B 4).trans rfl
     have d75 := (blk_cell d7B 5).trans rfl
     have d4B : w6.heap[b4]? = some (.cells #[.slice none 0 0, .slice none 0 0, .int .i64 0, .int .i64 0, .int .i64 0] 41 (0, 0)) := hTQ.mem X4.out
     have d40 := (blk_cell d4B 0).trans rfl
     have d41 := (blk_cell d4B 1).trans rfl
     have d42 := (blk_cell d4B 2).trans rfl
     have d43 := (blk_cell d4B 3).trans rfl
     have d44 := (blk_cell d4B 4).trans rfl
     clear d7B d4B hTQ hSQ hexq hown2 hgrow hat hlt2 TA SA S4 T4 hi hz0 hz1 hz2 hsl
     go_wp2_with (fail)
     refine (stowagelaw08_oneT.any (kd := 0) (x := x.f1.f0) (y := x.f1.f1) (s := x.f1.f2) (i1 := x.f2) (i2 := x.f3) SQ.out.2.2 TQ.out IR.out (by omega) (by decide)).mono ?_
     rintro e w8 ⟨n', v, rfl, hT, hI⟩
     rw [if_pos rfl] at hI
     have T8 := Aside0.mk hT
     have S8 := Aside0.mk (SQ.out.move (bs' := []) TQ.out hT)
     have HI := Aside0.mk hI
     clear hT hI d40 d41 d42 d43 d44 d70 d71 d72 d73 d74 d75
     go_wp2_with (fail)
     refine (T_Counts T8.out).mono ?_
     rintro e w9 ⟨rfl, q, rfl⟩
     have T9 := Aside0.mk (T8.out.drewN q)
     have S9 := Aside0.mk (S8.out.move (bs' := []) T8.out (T8.out.drewN q))
     clear T8 S8
     generalize w8.drewN q = w9 at T9 S9 ⊢
     go_wp2_with (fail)
     refine (T_Len T9.out).mono ?_
     rintro e w10 ⟨rfl, rfl⟩
     obtain ⟨na, nb, nc, nl, hcnt⟩ : ∃ na nb nc nl : Int, n'.a = na ∧ n'.b = nb ∧ n'.c = nc ∧ (n'.l.length : Int) = nl := ⟨_, _, _, _, rfl, rfl, rfl, rfl⟩
     obtain ⟨ea, eb, ec, el⟩ := hcnt
     have hsum : na = nb + nc + nl ∧ 0 ≤ nb ∧ 0 ≤ nc ∧ na ≤ ((i + 1 : Nat) : Int) ∧ 0 ≤ nl := by
      have h := HI.out
      rw [← ea, ← eb, ← ec, ← el]
      exact ⟨h.1, h.2.1, h.2.2.1, h.2.2.2.1, Int.natCast_nonneg _⟩
     rw [ea, eb, ec, el]
     have e1 : wrap64 (nb + nc) = nb + nc := by unfold wrap64; omega
     have e2 : wrap64 (nb + nc + nl) = na := by unfold wrap64; omega
     clear hsum ea eb ec el
     go_wp2
     go_roundg (N - (i + 1))
     case measure => omega
     case rel => exact ⟨i + 1, n', _, _, by simp, by omega, Nat.le_refl _, T9, S9, ⟨(X4.out)⟩, HI, L4⟩
    ·have q0 : (x.f0 == 0) = false := beq_eq_false_iff_ne.mpr hk0
     have HK0 := Aside0.mk hk0
     clear hk0
     have d4B : w4.heap[b4]? = some (.cells #[.slice none 0 0, .slice none 0 0, .int .i64 0, .int .i64 0, .int .i64 0] 41 (0, 0)) := T4.out.mem (List.mem_cons_of_mem _ B4.out)
     have d40 := (blk_cell d4B 0).trans rfl
     have d41 := (blk_cell d4B 1).trans rfl
     have d42 := (blk_cell d4B 2).trans rfl
     have d43 := (blk_cell d4B 3).trans rfl
     have d44 := (blk_cell d4B 4).trans rfl
     clear d4B
     go_wp2_with (fail)
     refine (stowagelaw08_oneT.any (kd := x.f0) (x := x.f1.f0) (y := x.f1.f1) (s := x.f1.f2) (i1 := x.f2) (i2 := x.f3) S4.out.2.2 T4.out IR.out (by omega) HK1.out).mono ?_
     rintro e w8 ⟨n', v, rfl, hT, hI⟩
     rw [if_neg HK0.out] at hI
     have T8 := Aside0.mk hT
     have S8 := Aside0.mk (S4.out.move (bs' := []) T4.out hT)
     have HI := Aside0.mk hI
     clear hT hI d40 d41 d42 d43 d44 d70 d71 d72 d73 d74 d75
     go_wp2_with (fail)
     refine (T_Counts T8.out).mono ?_
     rintro e w9 ⟨rfl, q, rfl⟩
     have T9 := Aside0.mk (T8.out.drewN q)
     have S9 := Aside0.mk (S8.out.move (bs' := []) T8.out (T8.out.drewN q))
     clear T8 S8
     generalize w8.drewN q = w9 at T9 S9 ⊢
     go_wp2_with (fail)
     refine (T_Len T9.out).mono ?_
     rintro e w10 ⟨rfl, rfl⟩
     obtain ⟨na, nb, nc, nl, hcnt⟩ : ∃ na nb nc nl : Int, n'.a = na ∧ n'.b = nb ∧ n'.c = nc ∧ (n'.l.length : Int) = nl := ⟨_, _, _, _, rfl, rfl, rfl, rfl⟩
     obtain ⟨ea, eb, ec, el⟩ := hcnt
     have hsum : na = nb + nc + nl ∧ 0 ≤ nb ∧ 0 ≤ nc ∧ na ≤ ((i + 1 : Nat) : Int) ∧ 0 ≤ nl := by
      have h := HI.out
      rw [← ea, ← eb, ← ec, ← el]
      exact ⟨h.1, h.2.1, h.2.2.1, h.2.2.2.1, Int.natCast_nonneg _⟩
     rw [ea, eb, ec, el]
     have e1 : wrap64 (nb + nc) = nb + nc := by unfold wrap64; omega
     have e2 : wrap64 (nb + nc + nl) = na := by unfold wrap64; omega
     clear hsum ea eb ec el
     go_wp2
     go_roundg (N - (i + 1))
     case measure => omega
     case rel => exact ⟨i + 1, n', sl, _, by simp, by omega, Nat.le_refl _, T9, S9, ⟨(List.mem_cons_of_mem _ B4.out)⟩, HI, ⟨Nat.le_succ_of_le LR.out⟩⟩
  ·have hF : ¬ ((i : Int) < (m : Int) ∧ (i : Int) < 100) := by omega
   by_cases h1 : (i : Int) < (m : Int)
   ·have h80 : decide ((i : Int) < 100) = false := decide_eq_false (by omega)
    clear hlt hF
    go_wp2
    go_ret
    exact ⟨rfl, TR.out.1⟩
   ·clear hlt hF
    go_wp2
    go_ret
    exact ⟨rfl, TR.out.1⟩
end Go.Proofs.Ytodkackgdchocaa.Q
namespace Go.Proofs.Ytodkackgdchocaa.Walks
open Go.RowKit Go.Proofs.Ytodkackgdchocaa.Q Go.Proofs.YtodkackgdchocaaW.PrintWords Go.Proofs.YtodkackgdchocaaW.PrintLast Go.Proofs.YtodkackgdchocaaW.PrintMore
set_option linter.unusedVariables false
theorem WiresTruth (W : World) (A0 : Option Addr) (c0 : Nat) (a0 : (List K.S45)) (l0 : a0.length ≤ c0) (C0 : Kd.C K.k45 W A0 a0.length a0) (g0 : (a0.length * 56 ≤ 140737488351232 ∧ ∀ y0 ∈ a0, ((Lit.int .i64 y0.f0).wf = true ∧ (((Lit.int .i64 y0.f1.f0).wf = true ∧ ((Lit.int .i64 y0.f1.f1).wf = true ∧ y0.f1.f2.size ≤ 140737488351232)) ∧ ((Lit.int .i64 y0.f2).wf = true ∧ (Lit.int .i64 y0.f3).wf = true))))) :
    Calls Try.prog 7 #[.slice A0 a0.length c0] W fun e w' => e = .returned (.bool true) ∧ Below W.heap.size W w' := stowagelaw08_WiresTruth.calls A0 c0 a0 W C0 l0
end Go.Proofs.Ytodkackgdchocaa.Walks
