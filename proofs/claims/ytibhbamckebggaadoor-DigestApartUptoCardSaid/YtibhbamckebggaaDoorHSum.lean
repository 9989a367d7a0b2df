/- What Hash.Sum tells. -/
import Derived.Test.YtibhbamckebggaaDoorHash
import Derived.Test.YtibhbamckebggaaDoorStepEq
import Derived.Deep.RegionHeld3
import Derived.Deep.DrawnRows
import Derived.Deep.MidRow
import Derived.Lib.LaidTab
import Derived.Laws.Closers25b
namespace Go.Proofs.YtibhbamckebggaaDoor.Q
open Go.RowKit Go.Proofs.YtibhbamckebggaaDoorW.PrintWords Go.Proofs.YtibhbamckebggaaDoorW.PrintLast Go.Proofs.YtibhbamckebggaaDoorW.PrintMore
set_option linter.unusedVariables false
set_option linter.unusedSimpArgs false
set_option maxHeartbeats 1000000
set_option maxRecDepth 10000
theorem run_index8 (W : World) (xs : List Int) (k : Nat) (hk : k < 8) (hl : xs.length = 8) : (Instr.index 43 (.agg (arr xs)) (.int .i64 (k : Int))).run Tryd.prog W = .ok (.int .u32 (xs.getD k 0)) W := by
  have h0 : 0 ≤ (k : Int) ∧ (k : Int) < 8 := by omega
  have hat := arr_at (xs := xs) (n := k) (by omega)
  have hi : (Tryd.prog.info? 42).map (·.size) = some 1 := by kernel_rfl
  obtain ⟨i, hi1, hi2⟩ := Option.map_eq_some_iff.1 hi
  simp [Instr.index, run_underlying Tryd.underlying43, run_underlying Tryd.underlying42, asIntOf, h0, go_sem, part, sizeOf, typeInfo, hi1, hi2, isAgg, hat, hk, Nat.not_le.2 hk]
def padZ (n : Nat) : Nat := (119 - n % 64) % 64
def byteAt (M : Int) (i : Nat) : Int := IntKind.u64.wrap (M * 8) / 2 ^ (8 * i) % 256
def be8 (M : Int) (j : Nat) : List Int := (List.range j).map (fun k => byteAt M (7 - k))
def tailB (n : Nat) (M : Int) : List Int := 128 :: (List.replicate (padZ n) 0 ++ be8 M 8)
theorem be8_succ (M : Int) (j : Nat) : be8 M (j + 1) = be8 M j ++ [byteAt M (7 - j)] := by
  unfold be8
  rw [List.range_succ, List.map_append]
  rfl
theorem be8_len (M : Int) (j : Nat) : (be8 M j).length = j := by simp [be8]
theorem tailB_range {xs : List Int} {M : Int} (h : ∀ x ∈ xs, 0 ≤ x ∧ x < 256) : ∀ x ∈ xs ++ tailB xs.length M, 0 ≤ x ∧ x < 256 := by
  intro x hx
  rcases List.mem_append.1 hx with hx | hx
  · exact h x hx
  · unfold tailB at hx
    rcases List.mem_cons.1 hx with rfl | hx
    · omega
    · rcases List.mem_append.1 hx with hx | hx
      · have := List.eq_of_mem_replicate hx
        omega
      · obtain ⟨k, _, rfl⟩ := List.mem_map.1 hx
        unfold byteAt
        omega
section
variable {ops : Array Oper} {rest : List Oper} {o : Oper} {a : Act} {W : World} {Q : Exit → Act → World → Prop}
theorem app_lit {w0 : World} (base : Nat) (hgd : o.guard = none) (s x : Operand) (ho : o.op = .call { callee := .builtin .append, args := #[s, x], argTypes := #[44, 44] })
    (v : Value) (xs ys : List Int) (hs : a.eval s = v) (hx : a.eval x = .slice (some ⟨W.heap.size, 0, none⟩) ys.length ys.length)
    (HO : (Kd.int .u8).R 5 W base (fun _ => True) v xs) (HB : Below base w0 W) (hl : xs.length + ys.length ≤ 140737488355328) (hbase : base ≤ W.heap.size) (hy : ys.length ≤ 100)
    (h : ∀ v1 w1, (Kd.int .u8).R 5 w1 base (fun _ => True) v1 (xs ++ ys) → Below base w0 w1 → wpList Tryd.prog ops Q rest (a.put o.dst v1) w1) :
    wpList Tryd.prog ops Q (o :: rest) a (W.alloc (.cells (ys.map (Value.int .u8)).toArray 5)) := by
  refine app8 (w0 := w0) base hgd s x ho v xs ys (some ⟨W.heap.size, 0, none⟩) ys.length ys.length (fun _ => True) hs hx (Kd.R_alloc HO _) (C_of_blk8 (heap_alloc_new W _) (by omega)) (fun _ _ => trivial) (HB.alloc hbase _) (by simp; omega) hl ?_
  intro v1 w1 h1 h2 _ _
  exact h v1 w1 h1 h2
end
theorem digest_Hash_Sum.calls (w0 : World) (g : Nat) (s xs : List Int) (m : Int) (w : World) (h : IsHash w w0.heap.size g s xs m) (hG : InG w) (hl : xs.length < 64)
    (hx : ∀ x ∈ xs, 0 ≤ x ∧ x < 256) (hs : InR s) :
    Calls Tryd.prog 14 #[.pointer (some ⟨g, 0, none⟩)] w fun e w' => e = .returned (.string (strOfNums (outs (foldB s (xs ++ tailB xs.length m) ((xs ++ tailB xs.length m).length / 64))))) ∧ Below w.heap.size w w' := by
  have hu43 := Tryd.underlying43
  have hu50 := Tryd.underlying50
  obtain ⟨v, h1, hgb, hR⟩ := h
  obtain ⟨A0, c0, hv0⟩ := Kd.R_slice hR
  subst hv0
  have H1 := Aside0.mk h1
  have RO := Aside0.mk hR
  have HG := Aside0.mk hG
  have HL := Aside0.mk hl
  have HX := Aside0.mk hx
  have HS := Aside0.mk hs
  have c8 := h1.c8
  clear h1 hgb hR hG hl hx hs
  go_enter Tryd.func14, Tryd.ntmps14
  go_wp2_with ((with_reducible refine gate_dst (N := 15) rfl ?_); refine Halt.out ?_)
  refine ⟨?_⟩
  refine app8 (w0 := w) w.heap.size rfl (.const (.slice none 0 0)) (.tmp 14) rfl (.slice none 0 0) [] xs A0 xs.length c0 (fun _ => True) ?e1 ?e2 (Kd.R_nil _ _ _ _ _) (Kd.R_reads' RO.out).2.2 (fun _ _ => trivial) (Below.refl _ _) (Nat.le_refl _) (by have := HL.out; simp only [List.length_nil]; omega) ?_
  case e1 => rfl
  case e2 => rfl
  intro v1 w1 hR1 hB1 hg1 _
  rw [List.nil_append] at hR1
  have R1 := Aside0.mk hR1
  have B1 := Aside0.mk hB1
  clear hR1 hB1 hg1 c8
  go_wp2_with ((with_reducible refine gate_dst (N := 17) rfl ?_); refine Halt.out ?_)
  refine ⟨?_⟩
  refine app_lit (w0 := w) (W := w1) w.heap.size rfl (.tmp 15) (.tmp 16) rfl v1 xs [128] ?e3a ?e3b R1.out B1.out (by have := HL.out; simp only [List.length_cons, List.length_nil]; omega) B1.out.size (by simp) ?_
  case e3a => rfl
  case e3b => rfl
  intro v3 w3 hR3 hB3
  have R3 := Aside0.mk hR3
  have B3 := Aside0.mk hB3
  clear hR3 hB3
  clear R1 B1
  go_wp2_with (fail)
  go_loopg [3] (padZ xs.length + 1) (fun kq v3 w' => ∃ z : Nat, Aside0 (z + kq = padZ xs.length + 1 ∧ z ≤ padZ xs.length) ∧ Aside0 ((Kd.int .u8).R 5 w' w.heap.size (fun _ => True) v3 (xs ++ 128 :: List.replicate z 0)) ∧ Aside0 (Below w.heap.size w w'))
  case atStart => exact ⟨0, ⟨by omega, by omega⟩, R3, B3⟩
  case round =>
    clear R3 B3
    obtain ⟨z, HZ, R, B⟩ := hrel
    cases gk with
    | zero => have := HZ.out; omega
    | succ k1 =>
      obtain ⟨A, c, hv⟩ := Kd.R_slice R.out
      subst hv
      have hlen : (xs ++ 128 :: List.replicate z 0).length = xs.length + 1 + z := by simp; omega
      obtain ⟨L, hL⟩ : ∃ L : Nat, L = (xs ++ 128 :: List.replicate z 0).length := ⟨_, rfl⟩
      rw [← hL]
      have hL2 : L = xs.length + 1 + z := by rw [hL, hlen]
      rw [← hL] at R
      have HL2 := Aside0.mk hL2
      have HL3 := Aside0.mk hL
      clear hL hlen
      by_cases hz : z = padZ xs.length
      · have q0 : (((L : Int) % 64) == 56) = true := beq_iff_eq.mpr (by rw [hL2, hz]; unfold padZ; omega)
        have q1 : (((L : Int) % 64) != 56) = false := bne_eq_false_iff_eq.mpr (by rw [hL2, hz]; unfold padZ; omega)
        clear hL2
        go_wp2_with (fail)
        obtain ⟨bs, hbs⟩ : ∃ bs : List Int, bs = xs ++ 128 :: List.replicate (padZ xs.length) 0 := ⟨_, rfl⟩
        have HBS := Aside0.mk hbs
        have HBL : Aside0 (bs.length = xs.length + 1 + padZ xs.length) := ⟨by rw [hbs]; simp; omega⟩
        have R5 : Aside0 ((Kd.int .u8).R 5 wr w.heap.size (fun _ => True) (.slice A L c) (bs ++ be8 m 0)) := ⟨by have := R.out; rw [hz, ← hbs] at this; rw [show be8 m 0 = [] from rfl, List.append_nil]; exact this⟩
        clear hbs hz
        go_loopg [3, 4] 9 (fun kq v3 v4 w' => ∃ j : Nat, v4 = .int .i64 (7 - (j : Int)) ∧ Aside0 (j + kq = 9 ∧ j ≤ 8) ∧ Aside0 ((Kd.int .u8).R 5 w' w.heap.size (fun _ => True) v3 (bs ++ be8 m j)) ∧ Aside0 (Below w.heap.size w w'))
        case atStart => exact ⟨0, rfl, ⟨by omega, by omega⟩, R5, B⟩
        case round =>
          clear R R5 B
          obtain ⟨j, rfl, HJ, R, B⟩ := hrel
          cases gk with
          | zero => have := HJ.out; omega
          | succ k1 =>
            obtain ⟨A2, c2, hv⟩ := Kd.R_slice R.out
            subst hv
            obtain ⟨L2, hL2⟩ : ∃ L : Nat, L = (bs ++ be8 m j).length := ⟨_, rfl⟩
            rw [← hL2] at R ⊢
            have HL4 := Aside0.mk hL2
            clear hL2
            by_cases hj : j < 8
            · obtain ⟨i, hi⟩ : ∃ i : Nat, 7 - (j : Int) = (i : Int) := ⟨7 - j, by omega⟩
              have hij : i = 7 - j := by omega
              rw [hi]
              have hlt : ((0 : Int) ≤ (i : Int)) = True := eq_true (by omega)
              obtain ⟨j8, hj8⟩ : ∃ q : Nat, q = 8 * i := ⟨_, rfl⟩
              have e8 : IntKind.i64.wrap (8 * (i : Int)) = (j8 : Int) := (i64_w _).trans ((IntWalk.wrap64_in _ (by omega)).trans (by omega))
              have c9 := (H1.out.below B.out).c9
              have hmin : min j8 64 = j8 := by omega
              have HJ8 := Aside0.mk hj8
              have HIJ := Aside0.mk hij
              have HI := Aside0.mk hi
              clear hj8 hij hi
              go_wp2_with ((with_reducible refine gate_dst (N := 40) rfl ?_); refine Halt.out ?_)
              refine ⟨?_⟩
              have hbv : IntKind.u64.wrap (m * 8) / 2 ^ j8 % 256 = byteAt m i := by rw [HJ8.out]; rfl
              rw [hbv]
              clear hbv
              refine app_lit (w0 := w) (W := wr) w.heap.size rfl (.tmp 29) (.tmp 39) rfl _ (bs ++ be8 m j) [byteAt m i] ?e6a ?e6b R.out B.out (by have := HL.out; have := HBL.out; have := HL4.out; simp only [List.length_append, be8, List.length_map, List.length_range, List.length_cons, List.length_nil]; unfold padZ at *; omega) B.out.size (by simp) ?_
              case e6a => rfl
              case e6b => rfl
              intro v6 w6 hR6 hB6
              have R6 := Aside0.mk hR6
              have B6 := Aside0.mk hB6
              clear hR6 hB6
              go_wp2
              go_roundg k1
              case measure => have := HJ.out; omega
              case rel => exact ⟨j + 1, (by have h1 := HI.out; have h2 := HIJ.out; have h3 := HJ.out; rw [IntWalk.wrap64_in _ (by omega)]; congr 1; omega), ⟨by have := HJ.out; omega, by omega⟩, ⟨by have := R6.out; rw [HIJ.out, List.append_assoc, ← be8_succ] at this; exact this⟩, B6⟩
            · obtain rfl : j = 8 := by have := HJ.out; omega
              have hlt : ((0 : Int) ≤ (7 - ((8 : Nat) : Int))) = False := eq_false (by omega)
              go_upto_region 10 with (fail)
              obtain ⟨ys, hys⟩ : ∃ ys : List Int, ys = bs ++ be8 m 8 := ⟨_, rfl⟩
              have HY : Aside0 (ys = xs ++ tailB xs.length m) := ⟨by rw [hys, HBS.out]; simp [tailB]⟩
              have HYL : Aside0 (ys.length % 64 = 0 ∧ 0 < ys.length ∧ ys.length ≤ 200) := ⟨by have := HL.out; have := HBL.out; rw [hys, List.length_append, HBL.out, be8_len]; unfold padZ at *; omega⟩
              have HYR : Aside0 (∀ x ∈ ys, 0 ≤ x ∧ x < 256) := ⟨by rw [HY.out]; exact tailB_range HX.out⟩
              rw [← hys] at HL4 R
              obtain ⟨gb, cb, hvb, _, hgbl, hrc, hcb⟩ := cells_of_R R.out (by have := HYL.out; omega)
              injection hvb with e1 e2 e3
              subst e1 e3
              have hL2 : L2 = ys.length := HL4.out
              subst hL2
              have RB := Aside0.mk hcb
              have NB := Aside0.mk hgbl
              have LC := Aside0.mk hrc
              have HH : Aside0 (IsH wr g s (.slice A0 xs.length c0) m) := ⟨H1.out.below B.out⟩
              clear R hys hgbl hrc hcb e2 HBS HBL HL3 HL2
              go_wp2_with (first
                | ((with_reducible refine gate_dst (N := 44) rfl ?_); refine Kd.event_run (v := .agg (arr s)) (w1 := wr) rfl (run_loadS _ (.tmp 43) ?f1 ?f2 HH.out) ?_; (case f1 => rfl); (case f2 => rfl))
                | ((with_reducible refine gate_dst (N := 5) rfl ?_); refine box_event rfl (N := 5) rfl (cs := arr z8) (t := 43) ?hr ?_; (case hr => first | (go_simp; done) | (go_simp; rfl)); intro g5 hg w7 hk7 hB7
                   have S5 : Aside0 (IsArr w7 g5 43 z8) := ⟨hk7⟩
                   have G5 : Aside0 (w.heap.size ≤ g5 ∧ gb < g5) := ⟨by have := B.out.size; omega, by have := NB.out; omega⟩
                   have B7 : Aside0 (Below w.heap.size w w7) := ⟨below_step B.out hB7⟩
                   have P7 : Aside0 (Cells8 w7 gb 0 ys) := ⟨RB.out.below hB7⟩
                   clear RB hk7 hB7 hg NB)
                | ((with_reducible refine gate_store (t := 43) (p := 5) (v := .tmp 44) rfl ?_); refine wpList_store_row (P := Tryd.prog) rfl 43 (.tmp 5) (.tmp 44) rfl g5 (arr s) ?h1 ?h2 43 _ S5.out ?h3 ?h4 (arr_one _) ?_; (case h1 => rfl); (case h2 => rfl); (case h3 => rw [arr_size, HH.out.1]; exact sizes43); (case h4 => rw [arr_size, arr_size, HH.out.1]; rfl)
                   have X5 : Aside0 (IsArr (w7.setRow g5 (arr s)) g5 43 s) := ⟨S5.out.row _⟩
                   have XB : Aside0 (Below w.heap.size w (w7.setRow g5 (arr s))) := ⟨below_row B7.out G5.out.1 _⟩
                   have XP : Aside0 (Cells8 (w7.setRow g5 (arr s)) gb 0 ys) := ⟨P7.out.farRow (by have := G5.out; omega) _⟩
                   clear S5 P7 B7 B
                   generalize w7.setRow g5 (arr s) = w8 at X5 XB XP ⊢))
              go_loopg [3] (ys.length / 64 + 1) (fun kq v3 w' => ∃ (q : Nat) (A : Option Addr) (r c : Nat) (s' : List Int), v3 = .slice A r c ∧ Aside0 (q + kq = ys.length / 64 + 1 ∧ r + 64 * q = ys.length ∧ r ≤ c ∧ (0 < r → A = some ⟨gb, 64 * q, none⟩)) ∧ Aside0 (IsArr w' g5 43 s') ∧ Aside0 (foldB s ys q = s' ∧ InR s' ∧ s'.length = 8) ∧ Aside0 (Cells8 w' gb 0 ys) ∧ Aside0 (Below w.heap.size w w'))
              case atStart => exact ⟨0, some ⟨gb, 0, none⟩, ys.length, c2, s, rfl, ⟨by omega, by omega, LC.out, fun _ => rfl⟩, X5, ⟨rfl, HS.out, H1.out.1⟩, XP, XB⟩
              case round =>
                have HHL := Aside0.mk HH.out.1
                clear X5 XB XP HH
                obtain ⟨q, A, r, c, s', rfl, HQ, X, HF, RB, B⟩ := hrel
                cases gk with
                | zero => have := HQ.out; omega
                | succ k1 =>
                  by_cases hr : 0 < r
                  · have hr64 : 64 ≤ r := by have := HQ.out; have := HYL.out; omega
                    have hlt : ((0 : Int) < (r : Int)) = True := eq_true (by omega)
                    have hlc : ((64 : Int) ≤ (c : Int)) = True := eq_true (by have := HQ.out; omega)
                    have hlc2 : (64 ≤ c) = True := eq_true (by have := HQ.out; omega)
                    have hr2 : ((64 : Int) ≤ (r : Int)) = True := eq_true (by omega)
                    obtain ⟨s0, s1, s2, s3, s4, s5, s6, s7, hs8⟩ := len8 HF.out.2.2
                    subst hs8
                    obtain ⟨i, hi⟩ : ∃ i : Nat, i = 64 * q := ⟨_, rfl⟩
                    have hA := HQ.out.2.2.2 hr
                    rw [← hi] at hA
                    subst hA
                    have HI := Aside0.mk hi
                    have HR64 := Aside0.mk hr64
                    clear hi hr64
                    go_wp2_with (fail)
                    refine start_ (n := 5) (S := fun w' => IsArr w' g5 43 [s0, s1, s2, s3, s4, s5, s6, s7]) (ds := [4]) #[false, false, false, false, false] (by kernel_rfl) rfl rfl X.out.drew (fun hHeld => ?_)
                    refine take_ (i := 0) (N := some 50) (v := ?_) (a' := ?_) #[true, false, false, false, false] rfl rfl (by kernel_rfl) (fun _ _ _ h => h) (Or.inl ⟨by rfl, ?_⟩) (by first | exact hHeld | assumption) ?_ ?_
                    rotate_left
                    · rintro w' s0_
                      refine run_loadArr _ (.tmp 5) ?_ ?_ s0_ ?_
                      all_goals rfl
                    rotate_left
                    · simp only [Act.put, List.setIfInBounds_toArray, List.set_cons_zero, List.set_cons_succ]
                      rfl
                    refine pure_ (i := 1) (N := some 51) (v := ?_) (a' := ?_) #[true, true, false, false, false] rfl rfl (by kernel_rfl) (fun _ _ _ h => h) (Or.inl ⟨by rfl, ?_⟩) ?_ ?_
                    rotate_left
                    · intro w'
                      go_simp
                      with_reducible rfl
                    rotate_left
                    · simp only [Act.put, List.setIfInBounds_toArray, List.set_cons_zero, List.set_cons_succ]
                      rfl
                    refine pure_ (i := 2) (N := some 52) (v := ?_) (a' := ?_) #[true, true, true, false, false] rfl rfl (by kernel_rfl) (fun _ _ _ h => h) (Or.inl ⟨by rfl, ?_⟩) ?_ ?_
                    rotate_left
                    · intro w'
                      go_simp
                      with_reducible rfl
                    rotate_left
                    · simp only [Act.put, List.setIfInBounds_toArray, List.set_cons_zero, List.set_cons_succ]
                      rfl
                    refine one_ (i := 3) (N := some 53) #[true, true, true, true, false] rfl rfl (by kernel_rfl) (by decide) (fun K hK => ?_)
                    have hlen : ((ys.drop i).take 64).length = 64 := by rw [List.length_take, List.length_drop]; have := HQ.out; have := HI.out; have := HR64.out; omega
                    obtain ⟨r0, r1, r2, r3, r4, r5, r6, r7, _, hb8, hin⟩ := step_eq 131 (by omega) s0 s1 s2 s3 s4 s5 s6 s7 ((ys.drop i).take 64) hlen (fun x hx => HYR.out x (List.mem_of_mem_drop (List.mem_of_mem_take hx))) HF.out.2.1
                    have hcells : Cells8 wr gb i ((ys.drop i).take 64) := by have := (RB.out.drop i).take 64; rwa [Nat.zero_add] at this
                    have hcall := digest_block.calls s0 s1 s2 s3 s4 s5 s6 s7 ((ys.drop i).take 64) ⟨gb, i, none⟩ c wr.drew hlen (fun j hj => by rw [Addr.add_mid]; exact hcells j (by rw [hlen]; exact hj)) (by have := HQ.out; have := HR64.out; omega) (HG.out.below (below_drew1 B.out))
                    rw [hb8] at hcall
                    refine call_ 24 #[.agg (arr [s0, s1, s2, s3, s4, s5, s6, s7]), .slice (some ⟨gb, i, none⟩) 64 c] (by rfl) rfl (by first | (go_simp; done) | (go_simp; rfl)) ?_
                    refine hcall.mono ?_
                    rintro e w6 ⟨rfl, hb6⟩
                    have V : Aside0 (IsArr w6 g5 43 [s0, s1, s2, s3, s4, s5, s6, s7]) := ⟨X.out.drew.below hb6⟩
                    have VP : Aside0 (Cells8 w6 gb 0 ys) := ⟨Cells8.below (W := wr.drew) RB.out hb6⟩
                    have VB : Aside0 (Below w.heap.size w w6) := ⟨below_step (below_drew1 B.out) hb6⟩
                    have HB8 := Aside0.mk hb8
                    have HIN := Aside0.mk hin
                    refine ⟨_, rfl, hK.out _ _ V.out (fun hHeld => ?_)⟩
                    clear hK K hcells hcall hb8 hin hlen hb6 X RB B
                    refine norm_ (a' := ?_) ?_ ?_
                    rotate_left
                    · show Act.put _ (some 53) _ = _
                      simp only [Act.put, List.setIfInBounds_toArray, List.set_cons_zero, List.set_cons_succ]
                      rfl
                    refine last_ (i := 4) (N := none) #[true, true, true, true, true] rfl rfl (by kernel_rfl) (by decide) (fun K hK => ?_)
                    refine skip_ (w1 := w6.setRow g5 (arr [r0, r1, r2, r3, r4, r5, r6, r7])) (by rfl) rfl ?_ ?_
                    · refine run_storeArr _ (.tmp 5) (.tmp 53) ?_ ?_ ?_ V.out rfl rfl
                      all_goals rfl
                    refine hK.out _ _ ?_
                    clear hK K
                    refine done_ (by kernel_rfl) ?_
                    by_cases hc : c = 64
                    · have hc1 : (c = 64) = True := eq_true hc
                      go_wp2
                      go_roundg k1
                      case measure => have := HQ.out; omega
                      case rel => exact ⟨q + 1, some ⟨gb, i, none⟩, r - 64, c - 64, _, by first | rfl | (simp; done) | (subst hc; rfl), ⟨by have := HQ.out; have := HR64.out; omega, by have := HQ.out; have := HR64.out; omega, by have := HQ.out; omega, fun h => by have := HQ.out; omega⟩, ⟨V.out.row _⟩, ⟨by rw [foldB, HF.out.1, ← HI.out]; exact HB8.out, HIN.out, rfl⟩, ⟨VP.out.farRow (by have := G5.out; omega) _⟩, ⟨below_row VB.out G5.out.1 _⟩⟩
                    · have hc1 : (c = 64) = False := eq_false hc
                      go_wp2
                      go_roundg k1
                      case measure => have := HQ.out; omega
                      case rel => exact ⟨q + 1, some ⟨gb, i + 64, none⟩, r - 64, c - 64, _, by first | rfl | (simp; done) | (subst hc; rfl), ⟨by have := HQ.out; have := HR64.out; omega, by have := HQ.out; have := HR64.out; omega, by have := HQ.out; omega, fun h => by rw [HI.out]; rfl⟩, ⟨V.out.row _⟩, ⟨by rw [foldB, HF.out.1, ← HI.out]; exact HB8.out, HIN.out, rfl⟩, ⟨VP.out.farRow (by have := G5.out; omega) _⟩, ⟨below_row VB.out G5.out.1 _⟩⟩
                  · obtain rfl : r = 0 := by omega
                    have hlt : ((0 : Int) < ((0 : Nat) : Int)) = False := eq_false (by omega)
                    obtain ⟨s0, s1, s2, s3, s4, s5, s6, s7, hs8⟩ := len8 HF.out.2.2
                    subst hs8
                    have hq : q = ys.length / 64 := by have := HQ.out; omega
                    have HFF : Aside0 (foldB s ys (ys.length / 64) = [s0, s1, s2, s3, s4, s5, s6, s7]) := ⟨by rw [← hq]; exact HF.out.1⟩
                    go_wp2_with (first
                      | ((with_reducible refine gate_dst (N := 54) rfl ?_); refine Kd.event_run (v := .agg (arr [s0, s1, s2, s3, s4, s5, s6, s7])) (w1 := wr) rfl (run_loadArr _ (.tmp 5) ?f1 ?f2 X.out rfl) ?_; (case f1 => rfl); (case f2 => rfl)))
                    go_loopg [6, 55] 9 (fun kq v6 v55 w' => ∃ (k : Nat), v55 = .int .i64 (k : Int) ∧ Aside0 (k + kq = 9 ∧ k ≤ 8) ∧ Aside0 ((Kd.int .u8).R 5 w' w.heap.size (fun _ => True) v6 (outs ([s0, s1, s2, s3, s4, s5, s6, s7].take k))) ∧ Aside0 (Below w.heap.size w w'))
                    case atStart => exact ⟨0, rfl, ⟨by omega, by omega⟩, ⟨Kd.R_nil _ _ _ _ _⟩, B⟩
                    case round =>
                      clear X RB B
                      obtain ⟨k, rfl, HK, RO2, B⟩ := hrel
                      cases gk with
                      | zero => have := HK.out; omega
                      | succ k2 =>
                        by_cases hk : k < 8
                        · have hlt2 : ((k : Int) < 8) = True := eq_true (by omega)
                          have hidx := run_index8 wr [s0, s1, s2, s3, s4, s5, s6, s7] k hk rfl
                          obtain ⟨x, yx⟩ : ∃ x : Int, x = [s0, s1, s2, s3, s4, s5, s6, s7].getD k 0 := ⟨_, rfl⟩
                          rw [← yx] at hidx
                          have YX := Aside0.mk yx
                          clear yx
                          go_wp2_with ((with_reducible refine gate_dst (N := 71) rfl ?_); refine Halt.out ?_)
                          refine ⟨?_⟩
                          refine app_lit (w0 := w) (W := wr) w.heap.size rfl (.tmp 58) (.tmp 70) rfl _ (outs ([s0, s1, s2, s3, s4, s5, s6, s7].take k)) (byteOut x) ?e7a ?e7b RO2.out B.out (by rw [outs_len, List.length_take]; simp only [List.length_cons, List.length_nil, byteOut]; omega) B.out.size (by simp [byteOut]) ?_
                          case e7a => rfl
                          case e7b => rfl
                          intro v7 w7 hR7 hB7
                          have R7 := Aside0.mk hR7
                          have B7 := Aside0.mk hB7
                          clear hR7 hB7
                          go_wp2
                          go_roundg k2
                          case measure => have := HK.out; omega
                          case rel => exact ⟨k + 1, by first | rfl | simp, ⟨by have := HK.out; omega, by omega⟩, ⟨by rw [outs_succ _ _ (by exact hk), ← YX.out]; exact R7.out⟩, B7⟩
                        · obtain rfl : k = 8 := by have := HK.out; omega
                          have hlt2 : (((8 : Nat) : Int) < 8) = False := eq_false (by omega)
                          have hconv := own_string (P := Tryd.prog) Tryd.underlying44 Tryd.underlying5 Tryd.underlying9 (Kd.own_of_R RO2.out)
                          go_wp2
                          go_ret
                          exact ⟨by rw [← HY.out, HFF.out]; rfl, B.out⟩
      · have q : (L : Int) % 64 ≠ 56 := by have := HZ.out; rw [hL2]; unfold padZ at *; omega
        have q0 : (((L : Int) % 64) == 56) = false := beq_eq_false_iff_ne.mpr q
        have q1 : (((L : Int) % 64) != 56) = true := bne_iff_ne.mpr q
        clear hL2 q
        go_wp2_with ((with_reducible refine gate_dst (N := 24) rfl ?_); refine Halt.out ?_)
        refine ⟨?_⟩
        refine app_lit (w0 := w) (W := wr) w.heap.size rfl (.tmp 22) (.tmp 23) rfl _ (xs ++ 128 :: List.replicate z 0) [0] ?e4a ?e4b R.out B.out (by have := HL.out; have := HL2.out; have := HL3.out; have := HZ.out; unfold padZ at *; simp only [List.length_cons, List.length_nil]; omega) B.out.size (by simp) ?_
        case e4a => rfl
        case e4b => rfl
        intro v4 w4 hR4 hB4
        have R4 := Aside0.mk hR4
        have B4 := Aside0.mk hB4
        clear hR4 hB4
        go_wp2
        go_roundg k1
        case measure => have := HZ.out; omega
        case rel => exact ⟨z + 1, ⟨by have := HZ.out; omega, by have := HZ.out; omega⟩, ⟨by have := R4.out; rw [List.append_assoc, List.cons_append, ← List.replicate_succ'] at this; exact this⟩, B4⟩
end Go.Proofs.YtibhbamckebggaaDoor.Q
