
/- digest.New and Write: what a hash in memory has taken in. -/
import Derived.Test.YtpgbkeaaklglkaaGreatDoorStepEq
import Derived.Test.YtpgbkeaaklglkaaGreatDoorRefSum
namespace Go.Proofs.YtpgbkeaaklglkaaGreatDoor.Q
open Go.RowKit Go.Proofs.YtpgbkeaaklglkaaGreatDoorW.PrintWords Go.Proofs.YtpgbkeaaklglkaaGreatDoorW.PrintLast Go.Proofs.YtpgbkeaaklglkaaGreatDoorW.PrintMore
set_option linter.unusedVariables false
set_option linter.unusedSimpArgs false
set_option maxHeartbeats 10000000
set_option maxRecDepth 100000
theorem len8 {s : List Int} (h : s.length = 8) : ∃ s0 s1 s2 s3 s4 s5 s6 s7, s = [s0, s1, s2, s3, s4, s5, s6, s7] := by
  match s, h with
  | [s0, s1, s2, s3, s4, s5, s6, s7], _ => exact ⟨_, _, _, _, _, _, _, _, rfl⟩
def hcs (s : List Int) (v : Value) (m : Int) : Array Value := (s.map (Value.int .u32) ++ [v, .int .u64 m]).toArray
def IsH (W : World) (g : Nat) (s : List Int) (v : Value) (m : Int) : Prop := s.length = 8 ∧ W.heap[g]? = some (.cells (hcs s v m) 100 (0, 0))
section
variable {W W' : World} {g : Nat} {s : List Int} {v : Value} {m : Int}
theorem IsH.lt (h : IsH W g s v m) : g < W.heap.size := blk_lt h.2
theorem IsH.c8 (h : IsH W g s v m) : W.cell? ⟨g, 8, none⟩ = some v := by
  obtain ⟨hs, hb⟩ := h
  obtain ⟨s0, s1, s2, s3, s4, s5, s6, s7, rfl⟩ := len8 hs
  exact (blk_cell hb 8).trans rfl
theorem IsH.c9 (h : IsH W g s v m) : W.cell? ⟨g, 9, none⟩ = some (.int .u64 m) := by
  obtain ⟨hs, hb⟩ := h
  obtain ⟨s0, s1, s2, s3, s4, s5, s6, s7, rfl⟩ := len8 hs
  exact (blk_cell hb 9).trans rfl
theorem IsH.frozen (h : IsH W g s v m) (i : Nat) : W.frozen? ⟨g, i, none⟩ = false := blk_frozen h.2 i
theorem IsH.below (h : IsH W g s v m) (hb : Below W.heap.size W W') : IsH W' g s v m := ⟨h.1, blk_below h.2 hb⟩
theorem IsH.alloc (h : IsH W g s v m) (o : Obj) : IsH (W.alloc o) g s v m := h.below (below_alloc (Below.refl _ _) o)
theorem IsH.drewN (h : IsH W g s v m) (n : Nat) : IsH (W.drewN n) g s v m := h
theorem IsH.drew (h : IsH W g s v m) : IsH W.drew g s v m := h
theorem IsH.grown {row : Option Nat} (h : IsH W g s v m) (hg : W.grownBy W' row) (hne : some g ≠ row) : IsH W' g s v m := ⟨h.1, (hg.block _ h.lt hne).trans h.2⟩
theorem IsH.setV (h : IsH W g s v m) (v' : Value) : IsH (W.setCell ⟨g, 8, none⟩ v') g s v' m := by
  obtain ⟨hs, hb⟩ := h
  obtain ⟨s0, s1, s2, s3, s4, s5, s6, s7, rfl⟩ := len8 hs
  exact ⟨rfl, (blk_set hb 8 v').trans rfl⟩
theorem IsH.setM (h : IsH W g s v m) (m' : Int) : IsH (W.setCell ⟨g, 9, none⟩ (.int .u64 m')) g s v m' := by
  obtain ⟨hs, hb⟩ := h
  obtain ⟨s0, s1, s2, s3, s4, s5, s6, s7, rfl⟩ := len8 hs
  exact ⟨rfl, (blk_set hb 9 _).trans rfl⟩
theorem IsH.setS (h : IsH W g s v m) {s' : List Int} (hs' : s'.length = 8) : IsH (W.setCells g 0 (arr s').toList) g s' v m := by
  obtain ⟨hs, hb⟩ := h
  obtain ⟨s0, s1, s2, s3, s4, s5, s6, s7, rfl⟩ := len8 hs
  obtain ⟨t0, t1, t2, t3, t4, t5, t6, t7, rfl⟩ := len8 hs'
  obtain ⟨cur', h1, h2, h3⟩ := setCells_row (arr [t0, t1, t2, t3, t4, t5, t6, t7]).toList 0 W _ hb (by simp [arr, hcs])
  refine ⟨rfl, ?_⟩
  have e : cur' = hcs [t0, t1, t2, t3, t4, t5, t6, t7] v m := by
    apply Array.ext'
    rw [h3]
    simp [hcs, arr]
  rw [h1, e]
theorem IsH.range (h : IsH W g s v m) : W.rangeAt g 0 (arr s).toList := by
  obtain ⟨hs, hb⟩ := h
  obtain ⟨s0, s1, s2, s3, s4, s5, s6, s7, rfl⟩ := len8 hs
  intro j u hj
  rw [Nat.zero_add, blk_cell hb j]
  have hjl : j < 8 := by
    have := (List.getElem?_eq_some_iff.1 hj).1
    simpa [arr] using this
  match j, hjl with
  | 0, _ | 1, _ | 2, _ | 3, _ | 4, _ | 5, _ | 6, _ | 7, _ => exact hj
theorem IsH.there (h : IsH W g s v m) : W.there g 0 8 := by
  obtain ⟨hs, hb⟩ := h
  obtain ⟨s0, s1, s2, s3, s4, s5, s6, s7, rfl⟩ := len8 hs
  intro j hj
  refine ⟨?_, blk_frozen hb _⟩
  rw [Nat.zero_add, blk_cell hb j]
  match j, hj with
  | 0, _ | 1, _ | 2, _ | 3, _ | 4, _ | 5, _ | 6, _ | 7, _ => rfl
theorem run_loadS {f : Operand → Value} (o : Oper) (x : Operand) (ho : o.op = .load 97 x) (hx : f x = .pointer (some ⟨g, 0, none⟩)) (h : IsH W g s v m) : (execOp f o).run Tryz.prog W = .ok (.value (.agg (arr s))) W := by
  have hr := run_loadVar_mid (P := Tryz.prog) W g 0 97 (arr s).toList _ h.range Tryz.underlying97 rfl (by rw [Array.length_toList, arr_size, h.1]; exact sizes97)
  unfold execOp
  simp only [ho, hx, Instr.loadAt, Instr.sureAddr, Sem.run_bind, Sem.run_pure, Result.andThen_ok, hr, Array.toArray_toList]
theorem run_storeS {f : Operand → Value} {s' : List Int} (o : Oper) (x y : Operand) (ho : o.op = .store 97 x y) (hx : f x = .pointer (some ⟨g, 0, none⟩)) (hy : f y = .agg (arr s')) (h : IsH W g s v m) (hs' : s'.length = 8) : (execOp f o).run Tryz.prog W = .ok .skip (W.setCells g 0 (arr s').toList) := by
  have hr := run_storeVar_mid (P := Tryz.prog) W g 0 97 (arr s') (by rw [arr_size, hs']; exact h.there) (by rw [arr_size, hs']; exact sizes97) (arr_one _)
  unfold execOp
  simp only [ho, hx, hy, Instr.storeAt, Instr.sureAddr, Sem.run_bind, Sem.run_pure, Result.andThen_ok, hr]
end
theorem below_sets {w0 : World} {g : Nat} (hg : w0.heap.size ≤ g) : ∀ (vs : List Value) (o : Nat) {w : World}, Below w0.heap.size w0 w → Below w0.heap.size w0 (w.setCells g o vs)
  | [], _, _, h => h
  | v :: r, o, w, h => below_sets hg r (o + 1) (h.setCell hg v)
/-- a hash in memory: its state, what rests, how many bytes -/
def IsHash (W : World) (base g : Nat) (s xs : List Int) (m : Int) : Prop := ∃ v, IsH W g s v m ∧ base ≤ g ∧ (Kd.int .u8).R 5 W base (fun k => k ≠ g) v xs
theorem IsHash.below {W W' : World} {base g : Nat} {s xs : List Int} {m : Int} (h : IsHash W base g s xs m) (hb : Below W.heap.size W W') : IsHash W' base g s xs m := by
  obtain ⟨v, h1, h2, h3⟩ := h
  exact ⟨v, h1.below hb, h2, Kd.R_below h3 hb⟩
theorem digest_New.calls2 (w0 w : World) (hB : Below w0.heap.size w0 w) :
    Calls Tryz.prog 25 #[] w fun e w' => ∃ g : Nat, e = .returned (.pointer (some ⟨g, 0, none⟩)) ∧ IsHash w' w0.heap.size g initS [] 0 ∧ Below w0.heap.size w0 w' ∧ Below w.heap.size w w' := by
  have hu43 := Tryz.underlying97
  have hu50 := Tryz.underlying100
  have hsz := hB.size
  go_enter Tryz.func25, Tryz.ntmps25
  go_wp2_with (first
    | ((with_reducible refine gate_dst (N := 3) rfl ?_); refine box_event rfl (N := 3) rfl (cs := hcs initS (.slice none 0 0) 0) (t := 100) ?hr ?_; (case hr => first | (go_simp; done) | (go_simp; rfl)); intro g hg w1 hk3 hB1
       subst hg
       have H3 : Aside0 (IsH w1 w.heap.size initS (.slice none 0 0) 0) := ⟨rfl, hk3⟩
       have B1 := Aside0.mk hB1
       clear hk3 hB1))
  go_ret
  exact ⟨w.heap.size, rfl, ⟨_, H3.out, hsz, Kd.R_nil _ _ _ _ _⟩, below_step hB B1.out, B1.out⟩
def wr64 (x : Int) : Int := x % 18446744073709551616
theorem bytes_range (t : ByteArray) (x : Int) (h : x ∈ bytesOf t) : 0 ≤ x ∧ x < 256 := by
  unfold bytesOf at h
  obtain ⟨b, _, rfl⟩ := List.mem_map.1 h
  have := b.toNat_lt
  omega
theorem own_ne_h {W : World} {base n g : Nat} {v u : Value} {cs : List Value} {s : List Int} {m : Int} (h : W.ownsRow base 5 1 v n cs) (hi : IsH W g s u m) : ∀ k, v.ownBlock = some k → k ≠ g := by
  intro k hk
  rcases h.2 with ⟨rfl, _⟩ | ⟨g', cap, cur, rfl, hb, hg, _⟩
  · simp [Value.ownBlock] at hk
  · simp only [Value.ownBlock, Option.some.injEq] at hk
    subst hk
    intro e
    subst e
    have := hg.symm.trans hi.2
    injection this with this
    injection this with h1 h2
    cases h2
theorem InG.keep {W W' : World} (h : InG W) (hb : W'.heap[0]? = W.heap[0]?) : InG W' := fun n hn => by
  rw [← h n hn]
  unfold World.cell?
  rw [hb]
theorem InG.setCell {W : World} {g j : Nat} (h : InG W) (h0 : 0 < g) (v : Value) : InG (W.setCell ⟨g, j, none⟩ v) := h.keep (Below.heap_setCell W ⟨g, j, none⟩ v 0 (by simp only; omega))
theorem InG.drew {W : World} (h : InG W) : InG W.drew := h
theorem InG.sets {W : World} {g o : Nat} (h : InG W) (h0 : 0 < g) (vs : List Value) : InG (W.setCells g o vs) := h.keep (setCells_far vs o 0 (by omega))
theorem Cells8.far {W : World} {gb o g j : Nat} {p : List Int} (h : Cells8 W gb o p) (hne : gb ≠ g) (vs : List Value) : Cells8 (W.setCells g j vs) gb o p := fun i hi => by
  rw [← h i hi]
  unfold World.cell?
  rw [setCells_far vs j gb hne]
theorem Cells8.far1 {W : World} {gb o g j : Nat} {p : List Int} (h : Cells8 W gb o p) (hne : gb ≠ g) (v : Value) : Cells8 (W.setCell ⟨g, j, none⟩ v) gb o p := h.far hne (j := j) [v]
theorem InG.grown {W W' : World} {base : Nat} {v : Value} {xs : List Int} {ok : Nat → Prop} (h : InG W) (hg : W.grownBy W' v.ownBlock) (hr : (Kd.int .u8).R 5 W base ok v xs) (h0 : 0 < base) : InG W' := by
  have hl : 0 < W.heap.size := by have := World.block_lt_of_cell? W _ (h 0 (by omega)); simpa using this
  refine h.keep (hg.block 0 hl (fun e => ?_))
  have := own_base (Kd.own_of_R hr) 0 e.symm
  omega
theorem digest_Hash_Write.calls (w0 : World) (g : Nat) (s xs : List Int) (m : Int) (t : ByteArray) (w : World) (h : IsHash w w0.heap.size g s xs m) (hB : Below w0.heap.size w0 w) (hG : InG w) (h0 : 0 < w0.heap.size) (hl : xs.length + t.size ≤ 140737488355328)
    (hx : ∀ x ∈ xs, 0 ≤ x ∧ x < 256) (hs : InR s) :
    Calls Tryz.prog 26 #[.pointer (some ⟨g, 0, none⟩), .string t] w fun e w' => e = .returned (.tuple #[]) ∧ IsHash w' w0.heap.size g (foldB s (xs ++ bytesOf t) ((xs ++ bytesOf t).length / 64)) ((xs ++ bytesOf t).drop (64 * ((xs ++ bytesOf t).length / 64))) (wr64 (m + t.size)) ∧ Below w0.heap.size w0 w' := by
  have hu43 := Tryz.underlying97
  have hu50 := Tryz.underlying100
  obtain ⟨v, h1, hgb, hR⟩ := h
  have H1 := Aside0.mk h1
  have RO := Aside0.mk hR
  have GB := Aside0.mk hgb
  have HB := Aside0.mk hB
  have HG := Aside0.mk hG
  have H0 := Aside0.mk h0
  have HL := Aside0.mk hl
  have c8 := h1.c8
  have c9 := h1.c9
  have f9 := h1.frozen 9
  have f8 := h1.frozen 8
  obtain ⟨ts, hts⟩ : ∃ n : Nat, n = t.size := ⟨_, rfl⟩
  have HTS := Aside0.mk hts
  have ht : ((t.size : Int) % 18446744073709551616) = t.size := by omega
  clear h1 hgb hR hB hG hl hts h0
  go_enter Tryz.func26, Tryz.ntmps26
  go_upto_region 2 with (fail)
  have X1 : Aside0 (IsH (w.setCell ⟨g, 9, none⟩ (.int .u64 (IntKind.u64.wrap (m + t.size)))) g s v (IntKind.u64.wrap (m + t.size))) := ⟨H1.out.setM _⟩
  have R1 := Aside0.mk (Kd.R_far RO.out (p := ⟨g, 9, none⟩) (fun k hk => hk) (.int .u64 (IntKind.u64.wrap (m + t.size))))
  have B1 : Aside0 (Below w0.heap.size w0 (w.setCell ⟨g, 9, none⟩ (.int .u64 (IntKind.u64.wrap (m + t.size))))) := ⟨below_set HB.out GB.out⟩
  have G1 : Aside0 (InG (w.setCell ⟨g, 9, none⟩ (.int .u64 (IntKind.u64.wrap (m + t.size))))) := ⟨HG.out.setCell (by have := GB.out; have := H0.out; omega) _⟩
  clear H1 RO HB HG c8 c9 f9 f8
  generalize w.setCell ⟨g, 9, none⟩ (.int .u64 (IntKind.u64.wrap (m + t.size))) = w1 at X1 R1 B1 G1 ⊢
  have c8 := X1.out.c8
  obtain ⟨ys, hys⟩ : ∃ ys : List Int, ys = xs ++ bytesOf t := ⟨_, rfl⟩
  have HY := Aside0.mk hys
  clear hys
  go_wp2_with (first
    | ((with_reducible refine gate_builtin (b := .append) (xs := #[.tmp 20, .tmp 21]) rfl ?_); at_builtin; refine print_append_str (w0 := w0) w0.heap.size rfl (.tmp 20) (.tmp 21) 72 9 5 rfl Tryz.underlying72 Tryz.underlying9 info5 v xs t rfl rfl (Kd.own_of_R R1.out) B1.out B1.out.size HL.out ?_
       intro v1 w2 hown hb hg
       rw [← HY.out] at hown
       obtain ⟨A1, c1, hv1⟩ := own_slice hown
       subst hv1
       have X2 : Aside0 (IsH w2 g s v (IntKind.u64.wrap (m + t.size))) := ⟨X1.out.grown hg (not_own R1.out)⟩
       have R2 := Aside0.mk (Kd.R_of_own (h1 := fun _ => rfl) (ok := fun k => k ≠ g) hown (own_ne_h hown X2.out))
       have LC : Aside0 (ys.length ≤ c1) := ⟨(Kd.R_reads' R2.out).2.1⟩
       have LB := Aside0.mk hb.size
       have B2 := Aside0.mk hb
       have G2 : Aside0 (InG w2) := ⟨G1.out.grown hg R1.out H0.out⟩
       have c8b := X2.out.c8
       have f8b := X2.out.frozen 8
       clear hown hb hg X1 R1 B1 G1 c8))
  have X3 : Aside0 (IsH (w2.setCell ⟨g, 8, none⟩ (.slice A1 ys.length c1)) g s (.slice A1 ys.length c1) (IntKind.u64.wrap (m + t.size))) := ⟨X2.out.setV _⟩
  have R3 := Aside0.mk (Kd.R_far R2.out (p := ⟨g, 8, none⟩) (fun k hk => hk) (.slice A1 ys.length c1))
  have B3 : Aside0 (Below w0.heap.size w0 (w2.setCell ⟨g, 8, none⟩ (.slice A1 ys.length c1))) := ⟨below_set B2.out GB.out⟩
  have G3 : Aside0 (InG (w2.setCell ⟨g, 8, none⟩ (.slice A1 ys.length c1))) := ⟨G2.out.setCell (by have := GB.out; have := H0.out; omega) _⟩
  clear X2 R2 B2 G2 c8b f8b
  generalize w2.setCell ⟨g, 8, none⟩ (.slice A1 ys.length c1) = w3 at X3 R3 B3 G3 ⊢
  obtain ⟨gb, NB, RB, AB⟩ : ∃ gb, Aside0 (gb ≠ g) ∧ Aside0 (Cells8 w3 gb 0 ys) ∧ Aside0 (0 < ys.length → A1 = some ⟨gb, 0, none⟩) := by
    by_cases h0 : 0 < ys.length
    · obtain ⟨gb, c, hv, _, _, _, hc⟩ := cells_of_R R3.out h0
      injection hv with e1 e2 e3
      subst e1
      exact ⟨gb, ⟨fun e => not_own R3.out (by rw [e]; rfl)⟩, ⟨hc⟩, ⟨fun _ => rfl⟩⟩
    · exact ⟨g + 1, ⟨by omega⟩, ⟨fun i hi => by omega⟩, ⟨fun h => absurd h h0⟩⟩
  have HYR : Aside0 (∀ x ∈ ys, 0 ≤ x ∧ x < 256) := ⟨by
    rw [HY.out]
    intro x h
    rcases List.mem_append.1 h with h | h
    · exact hx x h
    · exact bytes_range t x h⟩
  have HIS := Aside0.mk hs
  have HYL : Aside0 (ys.length ≤ 140737488355328) := ⟨by rw [HY.out, List.length_append, bytesOf_length]; exact HL.out⟩
  clear hx hs R3
  obtain ⟨M, hM⟩ : ∃ M : Int, M = IntKind.u64.wrap (m + t.size) := ⟨_, rfl⟩
  rw [← hM] at X3 ⊢
  have HM : Aside0 (wr64 (m + t.size) = M) := ⟨hM.symm ▸ rfl⟩
  clear hM
  go_loopg [] (ys.length / 64 + 1) (fun kq w' => ∃ (q : Nat) (A : Option Addr) (r c : Nat) (s' : List Int), Aside0 (q + kq = ys.length / 64 + 1 ∧ r + 64 * q = ys.length ∧ r ≤ c ∧ (0 < r → A = some ⟨gb, 64 * q, none⟩)) ∧ Aside0 (IsH w' g s' (.slice A r c) M) ∧ Aside0 (foldB s ys q = s' ∧ InR s') ∧ Aside0 (Cells8 w' gb 0 ys) ∧ Aside0 (Below w0.heap.size w0 w') ∧ Aside0 (InG w'))
  case atStart => exact ⟨0, A1, ys.length, c1, s, ⟨by omega, by omega, LC.out, AB.out⟩, X3, ⟨rfl, HIS.out⟩, RB, B3, G3⟩
  case round =>
    clear X3 RB B3 G3 AB
    obtain ⟨q, A, r, c, s', HQ, X, HF, RB, B, G⟩ := hrel
    cases gk with
    | zero => have := HQ.out; omega
    | succ k1 =>
      have c8 := X.out.c8
      have f8 := X.out.frozen 8
      by_cases hr : 64 ≤ r
      · have hlt : ((64 : Int) ≤ (r : Int)) = True := eq_true (by omega)
        have hlc : ((64 : Int) ≤ (c : Int)) = True := eq_true (by have := HQ.out; omega)
        have hlc2 : (64 ≤ c) = True := eq_true (by have := HQ.out; omega)
        obtain ⟨s0, s1, s2, s3, s4, s5, s6, s7, hs8⟩ := len8 X.out.1
        subst hs8
        obtain ⟨i, hi⟩ : ∃ i : Nat, i = 64 * q := ⟨_, rfl⟩
        have hA := HQ.out.2.2.2 (by omega)
        rw [← hi] at hA
        subst hA
        have HI := Aside0.mk hi
        clear hi
        go_wp2_with (fail)
        refine start_ (n := 14) (S := fun w' => IsH w' g [s0, s1, s2, s3, s4, s5, s6, s7] (.slice (some ⟨gb, i, none⟩) r c) M) (ds := [13]) #[false, false, false, false, false, false, false, false, false, false, false, false, false, false] (by kernel_rfl) rfl rfl X.out.drew (fun hHeld => ?_)
        refine pz 0 31 ?_
        refine pz 1 32 ?_
        refine pz 2 33 ?_
        refine pz 3 34 ?_
        refine take_ (i := 4) (N := some 35) (v := ?_) (a' := ?_) #[true, true, true, true, true, false, false, false, false, false, false, false, false, false] rfl rfl (by kernel_rfl) (fun _ _ _ h => h) (Or.inl ⟨by rfl, ?_⟩) (by first | exact hHeld | assumption) ?_ ?_
        rotate_left
        · rintro w' s0_
          refine run_loadS _ (.tmp 34) ?_ ?_ s0_
          all_goals rfl
        rotate_left
        · simp only [Act.put, List.setIfInBounds_toArray, List.set_cons_zero, List.set_cons_succ]
          rfl
        refine pz 5 36 ?_
        refine pz 6 37 ?_
        refine pz 7 38 ?_
        refine take_ (i := 8) (N := some 39) (v := ?_) (a' := ?_) #[true, true, true, true, true, true, true, true, true, false, false, false, false, false] rfl rfl (by kernel_rfl) (fun _ _ _ h => h) (Or.inl ⟨by rfl, ?_⟩) (by first | exact hHeld | assumption) ?_ ?_
        rotate_left
        · rintro w' s0_
          have h8_ := IsH.c8 s0_
          go_simp
          with_reducible rfl
        rotate_left
        · simp only [Act.put, List.setIfInBounds_toArray, List.set_cons_zero, List.set_cons_succ]
          rfl
        refine pz 9 40 ?_
        refine one_ (i := 10) (N := some 41) #[true, true, true, true, true, true, true, true, true, true, true, false, false, false] rfl rfl (by kernel_rfl) (by decide) (fun K hK => ?_)
        have hlen : ((ys.drop i).take 64).length = 64 := by rw [List.length_take, List.length_drop]; have := HQ.out; have := HI.out; omega
        obtain ⟨r0, r1, r2, r3, r4, r5, r6, r7, _, hb8, hin⟩ := step_eq 131 (by omega) s0 s1 s2 s3 s4 s5 s6 s7 ((ys.drop i).take 64) hlen (fun x hx => HYR.out x (List.mem_of_mem_drop (List.mem_of_mem_take hx))) HF.out.2
        have hcells : Cells8 wr gb i ((ys.drop i).take 64) := by have := (RB.out.drop i).take 64; rwa [Nat.zero_add] at this
        have hcall := digest_block.calls s0 s1 s2 s3 s4 s5 s6 s7 ((ys.drop i).take 64) ⟨gb, i, none⟩ c wr.drew hlen (fun j hj => by rw [Addr.add_mid]; exact hcells j (by rw [hlen]; exact hj)) (by have := HQ.out; omega) G.out.drew
        rw [hb8] at hcall
        refine call_ 55 #[.agg (arr [s0, s1, s2, s3, s4, s5, s6, s7]), .slice (some ⟨gb, i, none⟩) 64 c] (by rfl) rfl (by first | (go_simp; done) | (go_simp; rfl)) ?_
        refine hcall.mono ?_
        rintro e w6 ⟨rfl, hb6⟩
        have V : Aside0 (IsH w6 g [s0, s1, s2, s3, s4, s5, s6, s7] (.slice (some ⟨gb, i, none⟩) r c) M) := ⟨X.out.drew.below hb6⟩
        have VP : Aside0 (Cells8 w6 gb 0 ys) := ⟨Cells8.below (W := wr.drew) RB.out hb6⟩
        have VB : Aside0 (Below w0.heap.size w0 w6) := ⟨below_step (below_drew1 B.out) hb6⟩
        have VG : Aside0 (InG w6) := ⟨InG.below (w := wr.drew) G.out hb6⟩
        have HB8 := Aside0.mk hb8
        have HIN := Aside0.mk hin
        refine ⟨_, rfl, hK.out _ _ V.out (fun hHeld => ?_)⟩
        clear hK K hcells hcall hb8 hin hlen hb6 X RB B G c8 f8
        refine nz 41 ?_
        refine pz 11 42 ?_
        refine pz 12 43 ?_
        refine last_ (i := 13) (N := none) #[true, true, true, true, true, true, true, true, true, true, true, true, true, true] rfl rfl (by kernel_rfl) (by decide) (fun K hK => ?_)
        refine skip_ (w1 := w6.setCells g 0 (arr [r0, r1, r2, r3, r4, r5, r6, r7]).toList) (by rfl) rfl ?_ ?_
        · refine run_storeS _ (.tmp 43) (.tmp 41) ?_ ?_ ?_ V.out rfl
          all_goals rfl
        refine hK.out _ _ ?_
        clear hK K
        refine done_ (by kernel_rfl) ?_
        have X7 : Aside0 (IsH (w6.setCells g 0 (arr [r0, r1, r2, r3, r4, r5, r6, r7]).toList) g [r0, r1, r2, r3, r4, r5, r6, r7] (.slice (some ⟨gb, i, none⟩) r c) M) := ⟨V.out.setS rfl⟩
        have P7 : Aside0 (Cells8 (w6.setCells g 0 (arr [r0, r1, r2, r3, r4, r5, r6, r7]).toList) gb 0 ys) := ⟨VP.out.far NB.out _⟩
        have B7 : Aside0 (Below w0.heap.size w0 (w6.setCells g 0 (arr [r0, r1, r2, r3, r4, r5, r6, r7]).toList)) := ⟨below_sets GB.out _ _ VB.out⟩
        have G7 : Aside0 (InG (w6.setCells g 0 (arr [r0, r1, r2, r3, r4, r5, r6, r7]).toList)) := ⟨VG.out.sets (by have := GB.out; have := H0.out; omega) _⟩
        generalize w6.setCells g 0 (arr [r0, r1, r2, r3, r4, r5, r6, r7]).toList = w7 at X7 P7 B7 G7 ⊢
        clear V VP VB VG hHeld
        have c8 := X7.out.c8
        have f8 := X7.out.frozen 8
        by_cases hc : c = 64
        · have hc1 : (c = 64) = True := eq_true hc
          go_wp2
          go_roundg k1
          case measure => have := HQ.out; omega
          case rel => exact ⟨q + 1, some ⟨gb, i, none⟩, r - 64, c - 64, _, ⟨by have := HQ.out; omega, by have := HQ.out; omega, by have := HQ.out; omega, fun h => by have := HQ.out; omega⟩, ⟨by have := X7.out.setV (.slice (some ⟨gb, i, none⟩) (r - 64) (c - 64)); first | exact this | (subst hc; exact this)⟩, ⟨by rw [foldB, HF.out.1, ← HI.out]; exact HB8.out, HIN.out⟩, ⟨Cells8.far1 P7.out NB.out _⟩, ⟨below_set B7.out GB.out⟩, ⟨G7.out.setCell (by have := GB.out; have := H0.out; omega) _⟩⟩
        · have hc1 : (c = 64) = False := eq_false hc
          go_wp2
          go_roundg k1
          case measure => have := HQ.out; omega
          case rel => exact ⟨q + 1, some ⟨gb, i + 64, none⟩, r - 64, c - 64, _, ⟨by have := HQ.out; omega, by have := HQ.out; omega, by have := HQ.out; omega, fun h => by rw [HI.out]; rfl⟩, ⟨X7.out.setV (.slice (some ⟨gb, i + 64, none⟩) (r - 64) (c - 64))⟩, ⟨by rw [foldB, HF.out.1, ← HI.out]; exact HB8.out, HIN.out⟩, ⟨Cells8.far1 P7.out NB.out _⟩, ⟨below_set B7.out GB.out⟩, ⟨G7.out.setCell (by have := GB.out; have := H0.out; omega) _⟩⟩
      · have hlt : ((64 : Int) ≤ (r : Int)) = False := eq_false (by omega)
        have hC : Aside0 ((Kd.int .u8).C wr A r (ys.drop (64 * q))) := ⟨by
          have hlen : (ys.drop (64 * q)).length = r := by rw [List.length_drop]; have := HQ.out; omega
          by_cases h0 : 0 < r
          · have hA := HQ.out.2.2.2 h0
            subst hA
            have := (RB.out.drop (64 * q)).C (by rw [hlen]; have := HQ.out; have := HYL.out; omega)
            rw [Nat.zero_add, hlen] at this
            exact this
          · obtain rfl : r = 0 := by omega
            exact Kd.C_of_reads (enc := Value.int .u8) (d := (0 : Int)) (h1 := fun _ => rfl) ⟨hlen, by omega, fun h => absurd h (by omega)⟩⟩
        go_upto_region 6 with (fail)
        go_wp2_with ((with_reducible refine gate_dst (N := 57) rfl ?_); refine HaltD.out ?_)
        refine ⟨?_⟩
        refine app8 (w0 := w0) w0.heap.size rfl (.const (.slice none 0 0)) (.tmp 56) rfl (.slice none 0 0) [] (ys.drop (64 * q)) A r c (fun k => k ≠ g) ?e1 ?e2 (Kd.R_nil _ _ _ _ _) hC.out (fun k hk => by have := X.out.lt; omega) B.out B.out.size (by have := HQ.out; have := HYL.out; simp only [List.length_nil]; omega) ?_
        case e1 => rfl
        case e2 => rfl
        intro v1 w5 hR5 hB5 hg5 _
        have X5 : Aside0 (IsH w5 g s' (.slice A r c) M) := ⟨X.out.grown hg5 (by simp [Value.ownBlock])⟩
        obtain ⟨A5, c5, hv5⟩ := Kd.R_slice hR5
        subst hv5
        have R5 := Aside0.mk hR5
        have B5 := Aside0.mk hB5
        have f8b := X5.out.frozen 8
        have c8b := X5.out.c8
        clear hR5 hB5 hg5 X B c8 f8
        go_wp2
        first | go_end0 | ((try simp only [Exit.inBlock, Exit.then]); refine bodyPost_ret (results_none rfl _ _ _) rfl ?_)
        refine ⟨rfl, ?_, below_set B5.out GB.out⟩
        have hq : q = ys.length / 64 := by have := HQ.out; omega
        rw [← HY.out, ← hq, HF.out.1, HM.out]
        have R6 := Kd.R_far R5.out (p := ⟨g, 8, none⟩) (fun k hk => hk) (.slice A5 (ys.length - 64 * q) c5)
        rw [List.nil_append, List.length_drop] at R6
        exact ⟨_, X5.out.setV _, GB.out, R6⟩
end Go.Proofs.YtpgbkeaaklglkaaGreatDoor.Q
namespace Go.Proofs.YtpgbkeaaklglkaaGreatDoor.Q
open Go.RowKit Go.Proofs.YtpgbkeaaklglkaaGreatDoorW.PrintWords Go.Proofs.YtpgbkeaaklglkaaGreatDoorW.PrintLast Go.Proofs.YtpgbkeaaklglkaaGreatDoorW.PrintMore
set_option linter.unusedVariables false
set_option linter.unusedSimpArgs false
set_option maxHeartbeats 10000000
set_option maxRecDepth 100000
theorem run_index8 (W : World) (xs : List Int) (k : Nat) (hk : k < 8) (hl : xs.length = 8) : (Instr.index 97 (.agg (arr xs)) (.int .i64 (k : Int))).run Tryz.prog W = .ok (.int .u32 (xs.getD k 0)) W := by
  have h0 : 0 ≤ (k : Int) ∧ (k : Int) < 8 := by omega
  have hat := arr_at (xs := xs) (n := k) (by omega)
  have hi : (Tryz.prog.info? 96).map (·.size) = some 1 := by kernel_rfl
  obtain ⟨i, hi1, hi2⟩ := Option.map_eq_some_iff.1 hi
  simp [Instr.index, run_underlying Tryz.underlying97, run_underlying Tryz.underlying96, asIntOf, h0, go_sem, part, sizeOf, typeInfo, hi1, hi2, isAgg, hat, hk, Nat.not_le.2 hk]
def padZ (n : Nat) : Nat := (119 - n % 64) % 64
def byteAt (M : Int) (i : Nat) : Int := IntKind.u64.wrap (M * 8) / 2 ^ (8 * i) % 256
def be8 (M : Int) (j : Nat) : List Int := (List.range j).map (fun k => byteAt M (7 - k))
def tailB (n : Nat) (M : Int) : List Int := 128 :: (List.replicate (padZ n) 0 ++ be8 M 8)
theorem be8_succ (M : Int) (j : Nat) : be8 M (j + 1) = be8 M j ++ [byteAt M (7 - j)] := by
  unfold be8
  rw [List.range_succ, List.map_append]
  rfl
theorem be8_len (M : Int) (j : Nat) : (be8 M j).length = j := by simp [be8]
theorem tailB_range {xs : List Int} {M : Int} (h : ∀ x ∈ xs, 0 ≤ x ∧ x < 256) : ∀ x ∈ xs ++ tailB xs.length M, 0 ≤ x ∧ x < 256 := by
  intro x hx
  rcases List.mem_append.1 hx with hx | hx
  · exact h x hx
  · unfold tailB at hx
    rcases List.mem_cons.1 hx with rfl | hx
    · omega
    · rcases List.mem_append.1 hx with hx | hx
      · have := List.eq_of_mem_replicate hx
        omega
      · obtain ⟨k, _, rfl⟩ := List.mem_map.1 hx
        unfold byteAt
        omega
section
variable {ops : Array Oper} {rest : List Oper} {o : Oper} {a : Act} {W : World} {Q : Exit → Act → World → Prop}
theorem app_lit {w0 : World} (base : Nat) (hgd : o.guard = none) (s x : Operand) (ho : o.op = .call { callee := .builtin .append, args := #[s, x], argTypes := #[72, 72] })
    (v : Value) (xs ys : List Int) (hs : a.eval s = v) (hx : a.eval x = .slice (some ⟨W.heap.size, 0, none⟩) ys.length ys.length)
    (HO : (Kd.int .u8).R 5 W base (fun _ => True) v xs) (HB : Below base w0 W) (hl : xs.length + ys.length ≤ 140737488355328) (hbase : base ≤ W.heap.size) (hy : ys.length ≤ 100)
    (h : ∀ v1 w1, (Kd.int .u8).R 5 w1 base (fun _ => True) v1 (xs ++ ys) → Below base w0 w1 → wpList Tryz.prog ops Q rest (a.put o.dst v1) w1) :
    wpList Tryz.prog ops Q (o :: rest) a (W.alloc (.cells (ys.map (Value.int .u8)).toArray 5)) := by
  refine app8 (w0 := w0) base hgd s x ho v xs ys (some ⟨W.heap.size, 0, none⟩) ys.length ys.length (fun _ => True) hs hx (Kd.R_alloc HO _) (C_of_blk8 (heap_alloc_new W _) (by omega)) (fun _ _ => trivial) (HB.alloc hbase _) (by simp; omega) hl ?_
  intro v1 w1 h1 h2 _ _
  exact h v1 w1 h1 h2
end
theorem digest_Hash_Sum.calls (w0 : World) (g : Nat) (s xs : List Int) (m : Int) (w : World) (h : IsHash w w0.heap.size g s xs m) (hG : InG w) (hl : xs.length < 64)
    (hx : ∀ x ∈ xs, 0 ≤ x ∧ x < 256) (hs : InR s) :
    Calls Tryz.prog 27 #[.pointer (some ⟨g, 0, none⟩)] w fun e w' => e = .returned (.string (strOfNums (outs (foldB s (xs ++ tailB xs.length m) ((xs ++ tailB xs.length m).length / 64))))) ∧ Below w.heap.size w w' := by
  have hu43 := Tryz.underlying97
  have hu50 := Tryz.underlying100
  obtain ⟨v, h1, hgb, hR⟩ := h
  obtain ⟨A0, c0, hv0⟩ := Kd.R_slice hR
  subst hv0
  have H1 := Aside0.mk h1
  have RO := Aside0.mk hR
  have HG := Aside0.mk hG
  have HL := Aside0.mk hl
  have HX := Aside0.mk hx
  have HS := Aside0.mk hs
  have c8 := h1.c8
  clear h1 hgb hR hG hl hx hs
  go_enter Tryz.func27, Tryz.ntmps27
  go_wp2_with ((with_reducible refine gate_dst (N := 15) rfl ?_); refine HaltD.out ?_)
  refine ⟨?_⟩
  refine app8 (w0 := w) w.heap.size rfl (.const (.slice none 0 0)) (.tmp 14) rfl (.slice none 0 0) [] xs A0 xs.length c0 (fun _ => True) ?e1 ?e2 (Kd.R_nil _ _ _ _ _) (Kd.R_reads' RO.out).2.2 (fun _ _ => trivial) (Below.refl _ _) (Nat.le_refl _) (by have := HL.out; simp only [List.length_nil]; omega) ?_
  case e1 => rfl
  case e2 => rfl
  intro v1 w1 hR1 hB1 hg1 _
  rw [List.nil_append] at hR1
  have R1 := Aside0.mk hR1
  have B1 := Aside0.mk hB1
  clear hR1 hB1 hg1 c8
  go_wp2_with ((with_reducible refine gate_dst (N := 17) rfl ?_); refine HaltD.out ?_)
  refine ⟨?_⟩
  refine app_lit (w0 := w) (W := w1) w.heap.size rfl (.tmp 15) (.tmp 16) rfl v1 xs [128] ?e3a ?e3b R1.out B1.out (by have := HL.out; simp only [List.length_cons, List.length_nil]; omega) B1.out.size (by simp) ?_
  case e3a => rfl
  case e3b => rfl
  intro v3 w3 hR3 hB3
  have R3 := Aside0.mk hR3
  have B3 := Aside0.mk hB3
  clear hR3 hB3
  clear R1 B1
  go_wp2_with (fail)
  go_loopg [3] (padZ xs.length + 1) (fun kq v3 w' => ∃ z : Nat, Aside0 (z + kq = padZ xs.length + 1 ∧ z ≤ padZ xs.length) ∧ Aside0 ((Kd.int .u8).R 5 w' w.heap.size (fun _ => True) v3 (xs ++ 128 :: List.replicate z 0)) ∧ Aside0 (Below w.heap.size w w'))
  case atStart => exact ⟨0, ⟨by omega, by omega⟩, R3, B3⟩
  case round =>
    clear R3 B3
    obtain ⟨z, HZ, R, B⟩ := hrel
    cases gk with
    | zero => have := HZ.out; omega
    | succ k1 =>
      obtain ⟨A, c, hv⟩ := Kd.R_slice R.out
      subst hv
      have hlen : (xs ++ 128 :: List.replicate z 0).length = xs.length + 1 + z := by simp; omega
      obtain ⟨L, hL⟩ : ∃ L : Nat, L = (xs ++ 128 :: List.replicate z 0).length := ⟨_, rfl⟩
      rw [← hL]
      have hL2 : L = xs.length + 1 + z := by rw [hL, hlen]
      rw [← hL] at R
      have HL2 := Aside0.mk hL2
      have HL3 := Aside0.mk hL
      clear hL hlen
      by_cases hz : z = padZ xs.length
      · have q0 : (((L : Int) % 64) == 56) = true := beq_iff_eq.mpr (by rw [hL2, hz]; unfold padZ; omega)
        have q1 : (((L : Int) % 64) != 56) = false := bne_eq_false_iff_eq.mpr (by rw [hL2, hz]; unfold padZ; omega)
        clear hL2
        go_wp2_with (fail)
        obtain ⟨bs, hbs⟩ : ∃ bs : List Int, bs = xs ++ 128 :: List.replicate (padZ xs.length) 0 := ⟨_, rfl⟩
        have HBS := Aside0.mk hbs
        have HBL : Aside0 (bs.length = xs.length + 1 + padZ xs.length) := ⟨by rw [hbs]; simp; omega⟩
        have R5 : Aside0 ((Kd.int .u8).R 5 wr w.heap.size (fun _ => True) (.slice A L c) (bs ++ be8 m 0)) := ⟨by have := R.out; rw [hz, ← hbs] at this; rw [show be8 m 0 = [] from rfl, List.append_nil]; exact this⟩
        clear hbs hz
        go_loopg [3, 4] 9 (fun kq v3 v4 w' => ∃ j : Nat, v4 = .int .i64 (7 - (j : Int)) ∧ Aside0 (j + kq = 9 ∧ j ≤ 8) ∧ Aside0 ((Kd.int .u8).R 5 w' w.heap.size (fun _ => True) v3 (bs ++ be8 m j)) ∧ Aside0 (Below w.heap.size w w'))
        case atStart => exact ⟨0, rfl, ⟨by omega, by omega⟩, R5, B⟩
        case round =>
          clear R R5 B
          obtain ⟨j, rfl, HJ, R, B⟩ := hrel
          cases gk with
          | zero => have := HJ.out; omega
          | succ k1 =>
            obtain ⟨A2, c2, hv⟩ := Kd.R_slice R.out
            subst hv
            obtain ⟨L2, hL2⟩ : ∃ L : Nat, L = (bs ++ be8 m j).length := ⟨_, rfl⟩
            rw [← hL2] at R ⊢
            have HL4 := Aside0.mk hL2
            clear hL2
            by_cases hj : j < 8
            · obtain ⟨i, hi⟩ : ∃ i : Nat, 7 - (j : Int) = (i : Int) := ⟨7 - j, by omega⟩
              have hij : i = 7 - j := by omega
              rw [hi]
              have hlt : ((0 : Int) ≤ (i : Int)) = True := eq_true (by omega)
              obtain ⟨j8, hj8⟩ : ∃ q : Nat, q = 8 * i := ⟨_, rfl⟩
              have e8 : IntKind.i64.wrap (8 * (i : Int)) = (j8 : Int) := (i64_w _).trans ((IntWalk.wrap64_in _ (by omega)).trans (by omega))
              have c9 := (H1.out.below B.out).c9
              have hmin : min j8 64 = j8 := by omega
              have HJ8 := Aside0.mk hj8
              have HIJ := Aside0.mk hij
              have HI := Aside0.mk hi
              clear hj8 hij hi
              go_wp2_with ((with_reducible refine gate_dst (N := 40) rfl ?_); refine HaltD.out ?_)
              refine ⟨?_⟩
              have hbv : IntKind.u64.wrap (m * 8) / 2 ^ j8 % 256 = byteAt m i := by rw [HJ8.out]; rfl
              rw [hbv]
              clear hbv
              refine app_lit (w0 := w) (W := wr) w.heap.size rfl (.tmp 29) (.tmp 39) rfl _ (bs ++ be8 m j) [byteAt m i] ?e6a ?e6b R.out B.out (by have := HL.out; have := HBL.out; have := HL4.out; simp only [List.length_append, be8, List.length_map, List.length_range, List.length_cons, List.length_nil]; unfold padZ at *; omega) B.out.size (by simp) ?_
              case e6a => rfl
              case e6b => rfl
              intro v6 w6 hR6 hB6
              have R6 := Aside0.mk hR6
              have B6 := Aside0.mk hB6
              clear hR6 hB6
              go_wp2
              go_roundg k1
              case measure => have := HJ.out; omega
              case rel => exact ⟨j + 1, (by have h1 := HI.out; have h2 := HIJ.out; have h3 := HJ.out; rw [IntWalk.wrap64_in _ (by omega)]; congr 1; omega), ⟨by have := HJ.out; omega, by omega⟩, ⟨by have := R6.out; rw [HIJ.out, List.append_assoc, ← be8_succ] at this; exact this⟩, B6⟩
            · obtain rfl : j = 8 := by have := HJ.out; omega
              have hlt : ((0 : Int) ≤ (7 - ((8 : Nat) : Int))) = False := eq_false (by omega)
              go_upto_region 10 with (fail)
              obtain ⟨ys, hys⟩ : ∃ ys : List Int, ys = bs ++ be8 m 8 := ⟨_, rfl⟩
              have HY : Aside0 (ys = xs ++ tailB xs.length m) := ⟨by rw [hys, HBS.out]; simp [tailB]⟩
              have HYL : Aside0 (ys.length % 64 = 0 ∧ 0 < ys.length ∧ ys.length ≤ 200) := ⟨by have := HL.out; have := HBL.out; rw [hys, List.length_append, HBL.out, be8_len]; unfold padZ at *; omega⟩
              have HYR : Aside0 (∀ x ∈ ys, 0 ≤ x ∧ x < 256) := ⟨by rw [HY.out]; exact tailB_range HX.out⟩
              rw [← hys] at HL4 R
              obtain ⟨gb, cb, hvb, _, hgbl, hrc, hcb⟩ := cells_of_R R.out (by have := HYL.out; omega)
              injection hvb with e1 e2 e3
              subst e1 e3
              have hL2 : L2 = ys.length := HL4.out
              subst hL2
              have RB := Aside0.mk hcb
              have NB := Aside0.mk hgbl
              have LC := Aside0.mk hrc
              have HH : Aside0 (IsH wr g s (.slice A0 xs.length c0) m) := ⟨H1.out.below B.out⟩
              clear R hys hgbl hrc hcb e2 HBS HBL HL3 HL2
              go_wp2_with (first
                | ((with_reducible refine gate_dst (N := 44) rfl ?_); refine Kd.event_run (v := .agg (arr s)) (w1 := wr) rfl (run_loadS _ (.tmp 43) ?f1 ?f2 HH.out) ?_; (case f1 => rfl); (case f2 => rfl))
                | ((with_reducible refine gate_dst (N := 5) rfl ?_); refine box_event rfl (N := 5) rfl (cs := arr z8) (t := 97) ?hr ?_; (case hr => first | (go_simp; done) | (go_simp; rfl)); intro g5 hg w7 hk7 hB7
                   have S5 : Aside0 (IsArr w7 g5 97 z8) := ⟨hk7⟩
                   have G5 : Aside0 (w.heap.size ≤ g5 ∧ gb < g5) := ⟨by have := B.out.size; omega, by have := NB.out; omega⟩
                   have B7 : Aside0 (Below w.heap.size w w7) := ⟨below_step B.out hB7⟩
                   have P7 : Aside0 (Cells8 w7 gb 0 ys) := ⟨RB.out.below hB7⟩
                   clear RB hk7 hB7 hg NB)
                | ((with_reducible refine gate_store (t := 97) (p := 5) (v := .tmp 44) rfl ?_); refine wpList_store_row (P := Tryz.prog) rfl 97 (.tmp 5) (.tmp 44) rfl g5 (arr s) ?h1 ?h2 97 _ S5.out ?h3 ?h4 (arr_one _) ?_; (case h1 => rfl); (case h2 => rfl); (case h3 => rw [arr_size, HH.out.1]; exact sizes97); (case h4 => rw [arr_size, arr_size, HH.out.1]; rfl)
                   have X5 : Aside0 (IsArr (w7.setRow g5 (arr s)) g5 97 s) := ⟨S5.out.row _⟩
                   have XB : Aside0 (Below w.heap.size w (w7.setRow g5 (arr s))) := ⟨below_row B7.out G5.out.1 _⟩
                   have XP : Aside0 (Cells8 (w7.setRow g5 (arr s)) gb 0 ys) := ⟨P7.out.farRow (by have := G5.out; omega) _⟩
                   clear S5 P7 B7 B
                   generalize w7.setRow g5 (arr s) = w8 at X5 XB XP ⊢))
              go_loopg [3] (ys.length / 64 + 1) (fun kq v3 w' => ∃ (q : Nat) (A : Option Addr) (r c : Nat) (s' : List Int), v3 = .slice A r c ∧ Aside0 (q + kq = ys.length / 64 + 1 ∧ r + 64 * q = ys.length ∧ r ≤ c ∧ (0 < r → A = some ⟨gb, 64 * q, none⟩)) ∧ Aside0 (IsArr w' g5 97 s') ∧ Aside0 (foldB s ys q = s' ∧ InR s' ∧ s'.length = 8) ∧ Aside0 (Cells8 w' gb 0 ys) ∧ Aside0 (Below w.heap.size w w'))
              case atStart => exact ⟨0, some ⟨gb, 0, none⟩, ys.length, c2, s, rfl, ⟨by omega, by omega, LC.out, fun _ => rfl⟩, X5, ⟨rfl, HS.out, H1.out.1⟩, XP, XB⟩
              case round =>
                have HHL := Aside0.mk HH.out.1
                clear X5 XB XP HH
                obtain ⟨q, A, r, c, s', rfl, HQ, X, HF, RB, B⟩ := hrel
                cases gk with
                | zero => have := HQ.out; omega
                | succ k1 =>
                  by_cases hr : 0 < r
                  · have hr64 : 64 ≤ r := by have := HQ.out; have := HYL.out; omega
                    have hlt : ((0 : Int) < (r : Int)) = True := eq_true (by omega)
                    have hlc : ((64 : Int) ≤ (c : Int)) = True := eq_true (by have := HQ.out; omega)
                    have hlc2 : (64 ≤ c) = True := eq_true (by have := HQ.out; omega)
                    have hr2 : ((64 : Int) ≤ (r : Int)) = True := eq_true (by omega)
                    obtain ⟨s0, s1, s2, s3, s4, s5, s6, s7, hs8⟩ := len8 HF.out.2.2
                    subst hs8
                    obtain ⟨i, hi⟩ : ∃ i : Nat, i = 64 * q := ⟨_, rfl⟩
                    have hA := HQ.out.2.2.2 hr
                    rw [← hi] at hA
                    subst hA
                    have HI := Aside0.mk hi
                    have HR64 := Aside0.mk hr64
                    clear hi hr64
                    go_wp2_with (fail)
                    refine start_ (n := 5) (S := fun w' => IsArr w' g5 97 [s0, s1, s2, s3, s4, s5, s6, s7]) (ds := [4]) #[false, false, false, false, false] (by kernel_rfl) rfl rfl X.out.drew (fun hHeld => ?_)
                    refine take_ (i := 0) (N := some 50) (v := ?_) (a' := ?_) #[true, false, false, false, false] rfl rfl (by kernel_rfl) (fun _ _ _ h => h) (Or.inl ⟨by rfl, ?_⟩) (by first | exact hHeld | assumption) ?_ ?_
                    rotate_left
                    · rintro w' s0_
                      refine run_loadArr _ (.tmp 5) ?_ ?_ s0_ ?_
                      all_goals rfl
                    rotate_left
                    · simp only [Act.put, List.setIfInBounds_toArray, List.set_cons_zero, List.set_cons_succ]
                      rfl
                    refine pz 1 51 ?_
                    refine pz 2 52 ?_
                    refine one_ (i := 3) (N := some 53) #[true, true, true, true, false] rfl rfl (by kernel_rfl) (by decide) (fun K hK => ?_)
                    have hlen : ((ys.drop i).take 64).length = 64 := by rw [List.length_take, List.length_drop]; have := HQ.out; have := HI.out; have := HR64.out; omega
                    obtain ⟨r0, r1, r2, r3, r4, r5, r6, r7, _, hb8, hin⟩ := step_eq 131 (by omega) s0 s1 s2 s3 s4 s5 s6 s7 ((ys.drop i).take 64) hlen (fun x hx => HYR.out x (List.mem_of_mem_drop (List.mem_of_mem_take hx))) HF.out.2.1
                    have hcells : Cells8 wr gb i ((ys.drop i).take 64) := by have := (RB.out.drop i).take 64; rwa [Nat.zero_add] at this
                    have hcall := digest_block.calls s0 s1 s2 s3 s4 s5 s6 s7 ((ys.drop i).take 64) ⟨gb, i, none⟩ c wr.drew hlen (fun j hj => by rw [Addr.add_mid]; exact hcells j (by rw [hlen]; exact hj)) (by have := HQ.out; have := HR64.out; omega) (HG.out.below (below_drew1 B.out))
                    rw [hb8] at hcall
                    refine call_ 55 #[.agg (arr [s0, s1, s2, s3, s4, s5, s6, s7]), .slice (some ⟨gb, i, none⟩) 64 c] (by rfl) rfl (by first | (go_simp; done) | (go_simp; rfl)) ?_
                    refine hcall.mono ?_
                    rintro e w6 ⟨rfl, hb6⟩
                    have V : Aside0 (IsArr w6 g5 97 [s0, s1, s2, s3, s4, s5, s6, s7]) := ⟨X.out.drew.below hb6⟩
                    have VP : Aside0 (Cells8 w6 gb 0 ys) := ⟨Cells8.below (W := wr.drew) RB.out hb6⟩
                    have VB : Aside0 (Below w.heap.size w w6) := ⟨below_step (below_drew1 B.out) hb6⟩
                    have HB8 := Aside0.mk hb8
                    have HIN := Aside0.mk hin
                    refine ⟨_, rfl, hK.out _ _ V.out (fun hHeld => ?_)⟩
                    clear hK K hcells hcall hb8 hin hlen hb6 X RB B
                    refine nz 53 ?_
                    refine last_ (i := 4) (N := none) #[true, true, true, true, true] rfl rfl (by kernel_rfl) (by decide) (fun K hK => ?_)
                    refine skip_ (w1 := w6.setRow g5 (arr [r0, r1, r2, r3, r4, r5, r6, r7])) (by rfl) rfl ?_ ?_
                    · refine run_storeArr _ (.tmp 5) (.tmp 53) ?_ ?_ ?_ V.out rfl rfl
                      all_goals rfl
                    refine hK.out _ _ ?_
                    clear hK K
                    refine done_ (by kernel_rfl) ?_
                    by_cases hc : c = 64
                    · have hc1 : (c = 64) = True := eq_true hc
                      go_wp2
                      go_roundg k1
                      case measure => have := HQ.out; omega
                      case rel => exact ⟨q + 1, some ⟨gb, i, none⟩, r - 64, c - 64, _, by first | rfl | (simp; done) | (subst hc; rfl), ⟨by have := HQ.out; have := HR64.out; omega, by have := HQ.out; have := HR64.out; omega, by have := HQ.out; omega, fun h => by have := HQ.out; omega⟩, ⟨V.out.row _⟩, ⟨by rw [foldB, HF.out.1, ← HI.out]; exact HB8.out, HIN.out, rfl⟩, ⟨VP.out.farRow (by have := G5.out; omega) _⟩, ⟨below_row VB.out G5.out.1 _⟩⟩
                    · have hc1 : (c = 64) = False := eq_false hc
                      go_wp2
                      go_roundg k1
                      case measure => have := HQ.out; omega
                      case rel => exact ⟨q + 1, some ⟨gb, i + 64, none⟩, r - 64, c - 64, _, by first | rfl | (simp; done) | (subst hc; rfl), ⟨by have := HQ.out; have := HR64.out; omega, by have := HQ.out; have := HR64.out; omega, by have := HQ.out; omega, fun h => by rw [HI.out]; rfl⟩, ⟨V.out.row _⟩, ⟨by rw [foldB, HF.out.1, ← HI.out]; exact HB8.out, HIN.out, rfl⟩, ⟨VP.out.farRow (by have := G5.out; omega) _⟩, ⟨below_row VB.out G5.out.1 _⟩⟩
                  · obtain rfl : r = 0 := by omega
                    have hlt : ((0 : Int) < ((0 : Nat) : Int)) = False := eq_false (by omega)
                    obtain ⟨s0, s1, s2, s3, s4, s5, s6, s7, hs8⟩ := len8 HF.out.2.2
                    subst hs8
                    have hq : q = ys.length / 64 := by have := HQ.out; omega
                    have HFF : Aside0 (foldB s ys (ys.length / 64) = [s0, s1, s2, s3, s4, s5, s6, s7]) := ⟨by rw [← hq]; exact HF.out.1⟩
                    go_wp2_with (first
                      | ((with_reducible refine gate_dst (N := 54) rfl ?_); refine Kd.event_run (v := .agg (arr [s0, s1, s2, s3, s4, s5, s6, s7])) (w1 := wr) rfl (run_loadArr _ (.tmp 5) ?f1 ?f2 X.out rfl) ?_; (case f1 => rfl); (case f2 => rfl)))
                    go_loopg [6, 55] 9 (fun kq v6 v55 w' => ∃ (k : Nat), v55 = .int .i64 (k : Int) ∧ Aside0 (k + kq = 9 ∧ k ≤ 8) ∧ Aside0 ((Kd.int .u8).R 5 w' w.heap.size (fun _ => True) v6 (outs ([s0, s1, s2, s3, s4, s5, s6, s7].take k))) ∧ Aside0 (Below w.heap.size w w'))
                    case atStart => exact ⟨0, rfl, ⟨by omega, by omega⟩, ⟨Kd.R_nil _ _ _ _ _⟩, B⟩
                    case round =>
                      clear X RB B
                      obtain ⟨k, rfl, HK, RO2, B⟩ := hrel
                      cases gk with
                      | zero => have := HK.out; omega
                      | succ k2 =>
                        by_cases hk : k < 8
                        · have hlt2 : ((k : Int) < 8) = True := eq_true (by omega)
                          have hidx := run_index8 wr [s0, s1, s2, s3, s4, s5, s6, s7] k hk rfl
                          obtain ⟨x, yx⟩ : ∃ x : Int, x = [s0, s1, s2, s3, s4, s5, s6, s7].getD k 0 := ⟨_, rfl⟩
                          rw [← yx] at hidx
                          have YX := Aside0.mk yx
                          clear yx
                          go_wp2_with ((with_reducible refine gate_dst (N := 71) rfl ?_); refine HaltD.out ?_)
                          refine ⟨?_⟩
                          refine app_lit (w0 := w) (W := wr) w.heap.size rfl (.tmp 58) (.tmp 70) rfl _ (outs ([s0, s1, s2, s3, s4, s5, s6, s7].take k)) (byteOut x) ?e7a ?e7b RO2.out B.out (by rw [outs_len, List.length_take]; simp only [List.length_cons, List.length_nil, byteOut]; omega) B.out.size (by simp [byteOut]) ?_
                          case e7a => rfl
                          case e7b => rfl
                          intro v7 w7 hR7 hB7
                          have R7 := Aside0.mk hR7
                          have B7 := Aside0.mk hB7
                          clear hR7 hB7
                          go_wp2
                          go_roundg k2
                          case measure => have := HK.out; omega
                          case rel => exact ⟨k + 1, by first | rfl | simp, ⟨by have := HK.out; omega, by omega⟩, ⟨by rw [outs_succ _ _ (by exact hk), ← YX.out]; exact R7.out⟩, B7⟩
                        · obtain rfl : k = 8 := by have := HK.out; omega
                          have hlt2 : (((8 : Nat) : Int) < 8) = False := eq_false (by omega)
                          have hconv := own_string (P := Tryz.prog) Tryz.underlying72 Tryz.underlying5 Tryz.underlying9 (Kd.own_of_R RO2.out)
                          go_wp2
                          go_ret
                          exact ⟨by rw [← HY.out, HFF.out]; rfl, B.out⟩
      · have q : (L : Int) % 64 ≠ 56 := by have := HZ.out; rw [hL2]; unfold padZ at *; omega
        have q0 : (((L : Int) % 64) == 56) = false := beq_eq_false_iff_ne.mpr q
        have q1 : (((L : Int) % 64) != 56) = true := bne_iff_ne.mpr q
        clear hL2 q
        go_wp2_with ((with_reducible refine gate_dst (N := 24) rfl ?_); refine HaltD.out ?_)
        refine ⟨?_⟩
        refine app_lit (w0 := w) (W := wr) w.heap.size rfl (.tmp 22) (.tmp 23) rfl _ (xs ++ 128 :: List.replicate z 0) [0] ?e4a ?e4b R.out B.out (by have := HL.out; have := HL2.out; have := HL3.out; have := HZ.out; unfold padZ at *; simp only [List.length_cons, List.length_nil]; omega) B.out.size (by simp) ?_
        case e4a => rfl
        case e4b => rfl
        intro v4 w4 hR4 hB4
        have R4 := Aside0.mk hR4
        have B4 := Aside0.mk hB4
        clear hR4 hB4
        go_wp2
        go_roundg k1
        case measure => have := HZ.out; omega
        case rel => exact ⟨z + 1, ⟨by have := HZ.out; omega, by have := HZ.out; omega⟩, ⟨by have := R4.out; rw [List.append_assoc, List.cons_append, ← List.replicate_succ'] at this; exact this⟩, B4⟩
end Go.Proofs.YtpgbkeaaklglkaaGreatDoor.Q
namespace Go.Proofs.YtpgbkeaaklglkaaGreatDoor.Q
open Go.RowKit Go.Proofs.YtpgbkeaaklglkaaGreatDoorW.PrintWords Go.Proofs.YtpgbkeaaklglkaaGreatDoorW.PrintLast Go.Proofs.YtpgbkeaaklglkaaGreatDoorW.PrintMore
set_option linter.unusedVariables false
set_option linter.unusedSimpArgs false
set_option maxHeartbeats 10000000
set_option maxRecDepth 100000
def InB (xs : List Int) : Prop := ∀ x ∈ xs, 0 ≤ x ∧ x < 256
theorem block_in {s b : List Int} (hs : s.length = 8 ∧ InR s) (hb : b.length = 64) (hr : InB b) : (blockF s b).length = 8 ∧ InR (blockF s b) := by
  obtain ⟨s0, s1, s2, s3, s4, s5, s6, s7, rfl⟩ := len8 hs.1
  obtain ⟨r0, r1, r2, r3, r4, r5, r6, r7, _, h8, hi⟩ := step_eq 131 (by omega) s0 s1 s2 s3 s4 s5 s6 s7 b hb hr hs.2
  rw [h8]
  exact ⟨rfl, hi⟩
theorem foldB_in {s xs : List Int} (hs : s.length = 8 ∧ InR s) (hx : InB xs) : ∀ q, 64 * q ≤ xs.length → (foldB s xs q).length = 8 ∧ InR (foldB s xs q)
  | 0, _ => hs
  | q + 1, h => by
    rw [foldB]
    exact block_in (foldB_in hs hx q (by omega)) (by rw [List.length_take, List.length_drop]; omega) (fun x h => hx x (List.mem_of_mem_drop (List.mem_of_mem_take h)))
theorem foldB_append {s xs ys : List Int} : ∀ q, 64 * q ≤ xs.length → foldB s (xs ++ ys) q = foldB s xs q
  | 0, _ => rfl
  | q + 1, h => by
    rw [foldB, foldB, foldB_append q (by omega)]
    congr 1
    rw [List.drop_append_of_le_length (by omega), List.take_append_of_le_length (by rw [List.length_drop]; omega)]
theorem foldB_join {s xs ys : List Int} (q : Nat) (hq : 64 * q ≤ xs.length) : ∀ k, foldB (foldB s xs q) (xs.drop (64 * q) ++ ys) k = foldB s (xs ++ ys) (q + k)
  | 0 => (foldB_append q hq).symm
  | k + 1 => by
    rw [foldB, foldB_join q hq k, ← Nat.add_assoc, foldB]
    congr 2
    rw [← List.drop_append_of_le_length hq, List.drop_drop]
    congr 1
    omega
def qOf (xs : List Int) : Nat := xs.length / 64
def stateOf (xs : List Int) : List Int := foldB initS xs (qOf xs)
def restOf (xs : List Int) : List Int := xs.drop (64 * qOf xs)
def shaOf (xs : List Int) (m : Int) : List Int := outs (foldB initS (xs ++ tailB xs.length m) ((xs ++ tailB xs.length m).length / 64))
theorem q_le (xs : List Int) : 64 * qOf xs ≤ xs.length := by unfold qOf; omega
theorem rest_len (xs : List Int) : (restOf xs).length = xs.length % 64 := by unfold restOf; rw [List.length_drop]; unfold qOf; omega
theorem join_q (xs ys : List Int) : qOf xs + (restOf xs ++ ys).length / 64 = qOf (xs ++ ys) := by
  rw [List.length_append, rest_len]; unfold qOf; rw [List.length_append]; omega
theorem join_state (xs ys : List Int) : foldB (stateOf xs) (restOf xs ++ ys) ((restOf xs ++ ys).length / 64) = stateOf (xs ++ ys) := by
  unfold stateOf
  rw [← join_q xs ys]
  exact foldB_join (qOf xs) (q_le xs) _
theorem join_rest (xs ys : List Int) : (restOf xs ++ ys).drop (64 * ((restOf xs ++ ys).length / 64)) = restOf (xs ++ ys) := by
  rw [restOf, restOf, ← join_q xs ys, ← List.drop_append_of_le_length (q_le xs), List.drop_drop]
  congr 1
  show 64 * qOf xs + 64 * ((List.drop (64 * qOf xs) (xs ++ ys)).length / 64) = 64 * (qOf xs + (restOf xs ++ ys).length / 64)
  rw [restOf, ← List.drop_append_of_le_length (q_le xs), Nat.mul_add]
theorem padZ_mod (n : Nat) : padZ (n % 64) = padZ n := by unfold padZ; rw [Nat.mod_mod]
theorem join_sha (xs : List Int) (m : Int) : outs (foldB (stateOf xs) (restOf xs ++ tailB (restOf xs).length m) ((restOf xs ++ tailB (restOf xs).length m).length / 64)) = shaOf xs m := by
  have h : tailB (restOf xs).length m = tailB xs.length m := by unfold tailB; rw [rest_len, padZ_mod]
  rw [h, join_state]
  rfl
theorem stateOf_in {xs : List Int} (hx : InB xs) : (stateOf xs).length = 8 ∧ InR (stateOf xs) := foldB_in ⟨rfl, initS_in⟩ hx _ (q_le xs)
theorem restOf_in {xs : List Int} (hx : InB xs) : InB (restOf xs) := fun x h => hx x (List.mem_of_mem_drop h)
def Took (W : World) (base g : Nat) (xs : List Int) : Prop := IsHash W base g (stateOf xs) (restOf xs) (wr64 xs.length) ∧ InB xs
theorem Took.below {W W' : World} {base g : Nat} {xs : List Int} (h : Took W base g xs) (hb : Below W.heap.size W W') : Took W' base g xs := ⟨h.1.below hb, h.2⟩
theorem wr64_add (a b : Int) : wr64 (wr64 a + b) = wr64 (a + b) := by unfold wr64; omega
theorem T_New (w0 w : World) (hB : Below w0.heap.size w0 w) :
    Calls Tryz.prog 25 #[] w fun e w' => ∃ g : Nat, e = .returned (.pointer (some ⟨g, 0, none⟩)) ∧ Took w' w0.heap.size g [] ∧ Below w0.heap.size w0 w' ∧ Below w.heap.size w w' := by
  refine (digest_New.calls2 w0 w hB).mono ?_
  rintro e w' ⟨g, rfl, h, h2, h3⟩
  exact ⟨g, rfl, ⟨h, fun x hx => by simp at hx⟩, h2, h3⟩
theorem bytes_in (t : ByteArray) : InB (bytesOf t) := fun x h => bytes_range t x h
theorem in_append {xs ys : List Int} (h1 : InB xs) (h2 : InB ys) : InB (xs ++ ys) := fun x h => by
  rcases List.mem_append.1 h with h | h
  · exact h1 x h
  · exact h2 x h
theorem T_Write {w0 w : World} {g : Nat} {xs : List Int} (h : Took w w0.heap.size g xs) (t : ByteArray) (hB : Below w0.heap.size w0 w) (hG : InG w) (h0 : 0 < w0.heap.size) (hl : t.size ≤ 140737488355200) :
    Calls Tryz.prog 26 #[.pointer (some ⟨g, 0, none⟩), .string t] w fun e w' => e = .returned (.tuple #[]) ∧ Took w' w0.heap.size g (xs ++ bytesOf t) ∧ Below w0.heap.size w0 w' := by
  refine (digest_Hash_Write.calls w0 g (stateOf xs) (restOf xs) (wr64 xs.length) t w h.1 hB hG h0 (by rw [rest_len]; omega) (restOf_in h.2) (stateOf_in h.2).2).mono ?_
  rintro e w' ⟨rfl, h1, h2⟩
  refine ⟨rfl, ⟨?_, in_append h.2 (bytes_in t)⟩, h2⟩
  rw [join_state, join_rest, wr64_add] at h1
  rw [List.length_append, bytesOf_length, Int.natCast_add]
  exact h1
theorem T_Sum {w0 w : World} {g : Nat} {xs : List Int} (h : Took w w0.heap.size g xs) (hG : InG w) :
    Calls Tryz.prog 27 #[.pointer (some ⟨g, 0, none⟩)] w fun e w' => e = .returned (.string (strOfNums (shaOf xs (wr64 xs.length)))) ∧ Below w.heap.size w w' := by
  refine (digest_Hash_Sum.calls w0 g (stateOf xs) (restOf xs) (wr64 xs.length) w h.1 hG (by rw [rest_len]; omega) (restOf_in h.2) (stateOf_in h.2).2).mono ?_
  rintro e w' ⟨rfl, h1⟩
  exact ⟨by rw [join_sha], h1⟩
def sha (t : ByteArray) : ByteArray := strOfNums (shaOf (bytesOf t) t.size)
theorem wr64_id (n : Nat) (h : n < 18446744073709551616) : wr64 n = n := by unfold wr64; omega
theorem InG.pos {w : World} (h : InG w) : 0 < w.heap.size := by have := World.block_lt_of_cell? w _ (h 0 (by omega)); simpa using this
theorem digest_Sum.calls (t : ByteArray) (w : World) (hG : InG w) (hl : t.size ≤ 140737488355200) :
    Calls Tryz.prog 9 #[.string t] w fun e w' => e = .returned (.string (sha t)) ∧ Below w.heap.size w w' := by
  have HG := Aside0.mk hG
  have H0 := Aside0.mk hG.pos
  have HL := Aside0.mk hl
  clear hG hl
  go_enter Tryz.func9, Tryz.ntmps9
  go_wp2_with (fail)
  refine (T_New w w (Below.refl _ _)).mono ?_
  rintro e w1 ⟨g, rfl, hT, hB, hb⟩
  have T1 := Aside0.mk hT
  have B1 := Aside0.mk hB
  clear hT hB hb
  go_wp2_with (fail)
  refine (T_Write T1.out t B1.out (HG.out.below B1.out) H0.out HL.out).mono ?_
  rintro e w2 ⟨rfl, hT, hB⟩
  have T2 := Aside0.mk hT
  have B2 := Aside0.mk hB
  clear hT hB
  go_wp2_with (fail)
  refine (T_Sum T2.out (HG.out.below B2.out)).mono ?_
  rintro e w3 ⟨rfl, hb3⟩
  have B3 : Aside0 (Below w.heap.size w w3) := ⟨below_step B2.out hb3⟩
  clear hb3
  go_wp2
  go_ret
  have hw : wr64 ((bytesOf t).length : Nat) = t.size := by
    have := HL.out
    rw [bytesOf_length, wr64_id _ (by omega)]
  exact ⟨by rw [hw]; rfl, B3.out⟩
def dig (d : Int) : Int := if d < 10 then 48 + d else 87 + d
def hexL (xs : List Int) : List Int := xs.flatMap fun x => [dig (x / 16), dig (x % 16)]
def hexF (t : ByteArray) : ByteArray := strOfNums (hexL (bytesOf t))
def digitsS : ByteArray := ⟨#[48, 49, 50, 51, 52, 53, 54, 55, 56, 57, 97, 98, 99, 100, 101, 102]⟩
theorem digits_at (d : Int) (h0 : 0 ≤ d) (h1 : d < 16) (W : World) : (Instr.index 9 (.string digitsS) (.int .u8 d)).run Tryz.prog W = .ok (.int .u8 (dig d)) W := by
  have : d = 0 ∨ d = 1 ∨ d = 2 ∨ d = 3 ∨ d = 4 ∨ d = 5 ∨ d = 6 ∨ d = 7 ∨ d = 8 ∨ d = 9 ∨ d = 10 ∨ d = 11 ∨ d = 12 ∨ d = 13 ∨ d = 14 ∨ d = 15 := by omega
  rw [run_index_string W 9 digitsS .u8 d Tryz.underlying9]
  rcases this with rfl | rfl | rfl | rfl | rfl | rfl | rfl | rfl | rfl | rfl | rfl | rfl | rfl | rfl | rfl | rfl <;> rfl
theorem str_at (t : ByteArray) (n : Nat) (h : n < t.size) (W : World) : (Instr.index 9 (.string t) (.int .i64 (n : Int))).run Tryz.prog W = .ok (.int .u8 (bt t n)) W := by
  rw [run_index_string W 9 t .i64 n Tryz.underlying9, dif_pos (by omega)]
  rw [bt_at]
theorem and15 (b : Int) (h0 : 0 ≤ b) (h1 : b < 256) : Go.bits .and .u8 b 15 = b % 16 := by
  obtain ⟨n, rfl⟩ := Int.eq_ofNat_of_zero_le h0
  have hn : n < 256 := by omega
  have : ∀ k : Fin 256, Go.bits .and .u8 ((k.val : Nat) : Int) 15 = ((k.val : Nat) : Int) % 16 := by decide
  exact this ⟨n, hn⟩
theorem bytesOf_bt (t : ByteArray) (n : Nat) (h : n < t.size) : (bytesOf t).getD n 0 = bt t n := by
  unfold bytesOf bt
  rw [dif_pos (by simpa using h)]
  simp [List.getD_eq_getElem?_getD, h]
  rfl
theorem hexL_succ (xs : List Int) (n : Nat) (h : n < xs.length) : hexL (xs.take (n + 1)) = hexL (xs.take n) ++ [dig (xs.getD n 0 / 16), dig (xs.getD n 0 % 16)] := by
  rw [List.getD_eq_getElem?_getD, List.getElem?_eq_getElem h, List.take_add_one, List.getElem?_eq_getElem h]
  unfold hexL
  rw [List.flatMap_append]
  simp
theorem hexL_len (xs : List Int) : (hexL xs).length = 2 * xs.length := by
  induction xs with
  | nil => rfl
  | cons x xs ih =>
    have : hexL (x :: xs) = [dig (x / 16), dig (x % 16)] ++ hexL xs := rfl
    rw [this, List.length_append, ih]
    simp
    omega
theorem digest_Hex.calls (t : ByteArray) (w : World) (hl : t.size ≤ 70000000000000) :
    Calls Tryz.prog 8 #[.string t] w fun e w' => e = .returned (.string (hexF t)) ∧ Below w.heap.size w w' := by
  have HL := Aside0.mk hl
  have h2 : IntKind.i64.wrap (2 * (t.size : Int)) = ((2 * t.size : Nat) : Int) := (i64_w _).trans ((IntWalk.wrap64_in _ (by omega)).trans (by omega))
  obtain ⟨c, hc⟩ : ∃ c : Nat, c = 2 * t.size := ⟨_, rfl⟩
  rw [← hc] at h2
  obtain ⟨i0, hi0, hzz⟩ := Option.map_eq_some_iff.1 info5
  simp only [Prod.mk.injEq] at hzz
  obtain ⟨hz0, hz1, hz2⟩ := hzz
  have hmk : ∀ W : World, w.heap.size ≤ W.heap.size → ∃ w', (Instr.makeSlice 72 (.int .i64 0) (.int .i64 (c : Int))).run Tryz.prog W = .ok (.slice (some ⟨W.heap.size, 0, none⟩) 0 c) w' ∧ w'.ownsRow w.heap.size 5 1 (.slice (some ⟨W.heap.size, 0, none⟩) 0 c) 0 [] ∧ W.grownBy w' none :=
    fun W hW => run_make_own (P := Tryz.prog) W w.heap.size 72 5 i0 (.int .u8 0) 1 Tryz.underlying72 hi0 hz0 hz1 .i64 .i64 c (by rw [hz2, hc]; omega) (by rw [hc]; simp only [maxLen]; omega) hW
  obtain ⟨w1, hrun, hown, hgr⟩ := hmk w (Nat.le_refl _)
  have R1 : Aside0 ((Kd.int .u8).R 5 w1 w.heap.size (fun _ => True) (.slice (some ⟨w.heap.size, 0, none⟩) 0 c) []) := ⟨Kd.R_of_own (h1 := fun _ => rfl) hown (fun _ _ => trivial)⟩
  have B1 : Aside0 (Below w.heap.size w w1) := ⟨(Below.refl _ _).grown hgr (Nat.le_refl _) (fun k hk => by cases hk)⟩
  clear hown hgr hmk hc
  go_enter Tryz.func8, Tryz.ntmps8
  go_wp2_with (fail)
  go_loopg [3, 11] (t.size + 1) (fun kq v3 v11 w' => ∃ n : Nat, v11 = .int .i64 (n : Int) ∧ Aside0 (n + kq = t.size + 1 ∧ n ≤ t.size) ∧ Aside0 ((Kd.int .u8).R 5 w' w.heap.size (fun _ => True) v3 (hexL ((bytesOf t).take n))) ∧ Aside0 (Below w.heap.size w w'))
  case atStart => exact ⟨0, rfl, ⟨by omega, by omega⟩, R1, B1⟩
  case round =>
    clear R1 B1 hrun
    obtain ⟨n, rfl, HN, R, B⟩ := hrel
    cases gk with
    | zero => have := HN.out; omega
    | succ k1 =>
      by_cases hn : n < t.size
      · have hlt : ((n : Int) < (t.size : Int)) = True := eq_true (by omega)
        have hb0 := str_at t n hn
        have hr := bt_range t n
        obtain ⟨b, yb⟩ : ∃ b : Int, b = bt t n := ⟨_, rfl⟩
        rw [← yb] at hb0 hr
        have hd1 := digits_at (b / 16) (by omega) (by omega)
        have hd2 := digits_at (b % 16) (by omega) (by omega)
        have ha := and15 b (by omega) (by omega)
        unfold digitsS at hd1 hd2
        have YB := Aside0.mk yb
        clear yb hr
        go_wp2_with (fail)
        refine start_ (n := 14) (S := fun _ => True) (ds := []) #[false, false, false, false, false, false, false, false, false, false, false, false, false, false] (by kernel_rfl) rfl rfl trivial (fun hHeld => ?_)
        refine pz 0 14 ?_
        refine pz 1 15 ?_
        refine pz 2 16 ?_
        refine pz 3 17 ?_
        refine pz 4 18 ?_
        refine pz 5 19 ?_
        refine pz 6 20 ?_
        refine pz 7 21 ?_
        refine pz 8 22 ?_
        refine pz 9 23 ?_
        refine pz 10 24 ?_
        refine one_ (i := 11) (N := some 25) #[true, true, true, true, true, true, true, true, true, true, true, true, false, false] rfl rfl (by kernel_rfl) (by decide) (fun K hK => ?_)
        refine value_ (v := .slice (some ⟨wr.drew.heap.size, 0, none⟩) 2 2) (w1 := wr.drew.alloc (.cells (([dig (b / 16), dig (b % 16)] : List Int).map (Value.int .u8)).toArray 5)) (by rfl) rfl (by first | (go_simp; done) | (go_simp; rfl)) ?_
        have hq4 : Aside0 ((wr.drew.alloc (.cells (([dig (b / 16), dig (b % 16)] : List Int).map (Value.int .u8)).toArray 5)).heap[wr.drew.heap.size]? = some (.cells (([dig (b / 16), dig (b % 16)] : List Int).map (Value.int .u8)).toArray 5 (0, 0))) := ⟨heap_alloc_new _ _⟩
        have hqR := Aside0.mk (Kd.R_alloc (Kd.R_drew R.out) (.cells (([dig (b / 16), dig (b % 16)] : List Int).map (Value.int .u8)).toArray 5))
        have hqB : Aside0 (Below w.heap.size w (wr.drew.alloc (.cells (([dig (b / 16), dig (b % 16)] : List Int).map (Value.int .u8)).toArray 5))) := ⟨below_alloc (below_drew1 B.out) _⟩
        generalize wr.drew.alloc (.cells (([dig (b / 16), dig (b % 16)] : List Int).map (Value.int .u8)).toArray 5) = w5 at hq4 hqR hqB ⊢
        generalize wr.drew.heap.size = gr at hq4 ⊢
        refine hK.out _ _ trivial (fun hHeld => ?_)
        clear hK K
        refine nz 25 ?_
        refine one_ (i := 12) (N := some 26) #[true, true, true, true, true, true, true, true, true, true, true, true, true, false] rfl rfl (by kernel_rfl) (by decide) (fun K hK => ?_)
        refine app8_step w.heap.size (by rfl) (.tmp 14) (.tmp 25) rfl _ _ [dig (b / 16), dig (b % 16)] (some ⟨gr, 0, none⟩) 2 2 (fun _ => True) ?hs ?hx hqR.out (C_of_blk8 hq4.out (by simp)) (fun _ _ => trivial) hqB.out hqB.out.size (by rw [hexL_len, List.length_take, bytesOf_length]; have := HL.out; omega) ?_
        case hs => rfl
        case hx => rfl
        intro v1 w7 hR7 hB7 _ _
        have R7 := Aside0.mk hR7
        have B7 := Aside0.mk hB7
        clear hR7 hB7 hq4 hqR hqB
        refine hK.out _ _ trivial (fun hHeld => ?_)
        clear hK K
        refine nz 26 ?_
        refine pz 13 3 ?_
        refine done_ (by kernel_rfl) ?_
        go_wp2
        go_roundg k1
        case measure => have := HN.out; omega
        case rel => exact ⟨n + 1, by first | rfl | simp, ⟨by have := HN.out; omega, by omega⟩, ⟨by rw [hexL_succ _ _ (by rw [bytesOf_length]; exact hn), bytesOf_bt t n hn, ← YB.out]; exact R7.out⟩, B7⟩
      · obtain rfl : n = t.size := by have := HN.out; omega
        have hlt : ((t.size : Int) < (t.size : Int)) = False := eq_false (by omega)
        have hconv := own_string (P := Tryz.prog) Tryz.underlying72 Tryz.underlying5 Tryz.underlying9 (Kd.own_of_R R.out)
        go_wp2
        go_ret
        refine ⟨?_, B.out⟩
        rw [List.take_of_length_le (by rw [bytesOf_length]; omega)]
        rfl
theorem padded_l1 (m : Nat) (X : Int) (hX : X = IntKind.u64.wrap ((m : Int) * 8)) (pre : List Int) (hp : pre.length ≤ 140737488355000) : ∀ (d j k : Nat), j + d = 8 → d < k → stowageref03_padded.l1 k (pre ++ be8 m j) X (56 - 8 * (j : Int)) = some (pre ++ be8 m 8)
  | 0, j, k, hj, hk => by
    obtain ⟨k, rfl⟩ : ∃ k', k = k' + 1 := ⟨k - 1, by omega⟩
    obtain rfl : j = 8 := by omega
    simp only [stowageref03_padded.l1]
    rw [if_neg (by omega)]
  | d + 1, j, k, hj, hk => by
    obtain ⟨k, rfl⟩ : ∃ k', k = k' + 1 := ⟨k - 1, by omega⟩
    have ih := padded_l1 m X hX pre hp d (j + 1) k (by omega) (by omega)
    simp only [stowageref03_padded.l1]
    have hw : IntKind.u64.wrap (56 - 8 * (j : Int)) = 56 - 8 * (j : Int) := IntWalk.u64_in _ (by omega)
    rw [if_pos (by omega), hw, if_pos (by omega), if_pos (by rw [List.length_append, be8_len]; omega)]
    rw [show wrap64 (56 - 8 * (j : Int) - 8) = 56 - 8 * ((j + 1 : Nat) : Int) by rw [IntWalk.wrap64_in _ (by omega)]; omega]
    rw [← ih, be8_succ, ← List.append_assoc]
    congr 3
    unfold shr byteAt
    rw [hX]
    have e : min (56 - 8 * (j : Int)).toNat IntKind.u64.bits = 8 * (7 - j) := by
      have : (56 - 8 * (j : Int)).toNat = 8 * (7 - j) := by omega
      rw [this]
      exact Nat.min_eq_left (by show 8 * (7 - j) ≤ 64; omega)
    rw [e]
theorem padded_l0 (a0 : ByteArray) (hs : a0.size ≤ 140737488351232) (bs : List Int) (hb : bs.length = a0.size) : ∀ (d z k : Nat), z + d = padZ bs.length → d + 9 < k → stowageref03_padded.l0 k a0 (bs ++ 128 :: List.replicate z 0) = some (bs ++ 128 :: List.replicate (padZ bs.length) 0 ++ be8 a0.size 8)
  | 0, z, k, hz, hk => by
    obtain ⟨k, rfl⟩ : ∃ k', k = k' + 1 := ⟨k - 1, by omega⟩
    obtain rfl : z = padZ bs.length := by omega
    have hl : (bs ++ 128 :: List.replicate (padZ bs.length) 0).length = bs.length + 1 + padZ bs.length := by simp; omega
    simp only [stowageref03_padded.l0]
    rw [if_pos (by rw [hl]; unfold padZ; omega)]
    have h := padded_l1 a0.size (IntKind.u64.wrap (IntKind.u64.wrap (a0.size : Int) * 8)) (by rw [IntWalk.u64_in (a0.size : Int) (by omega)]) (bs ++ 128 :: List.replicate (padZ bs.length) 0) (by rw [hl]; unfold padZ; omega) 8 0 k (by omega) (by omega)
    rw [show be8 (a0.size : Int) 0 = [] from rfl, List.append_nil] at h
    exact h
  | d + 1, z, k, hz, hk => by
    obtain ⟨k, rfl⟩ : ∃ k', k = k' + 1 := ⟨k - 1, by omega⟩
    have ih := padded_l0 a0 hs bs hb d (z + 1) k (by omega) (by omega)
    have hl : (bs ++ 128 :: List.replicate z 0).length = bs.length + 1 + z := by simp; omega
    simp only [stowageref03_padded.l0]
    rw [if_neg (by rw [hl]; unfold padZ at *; omega), if_pos (by rw [hl]; unfold padZ at *; omega)]
    rw [← ih, List.append_assoc, List.cons_append, ← List.replicate_succ']
theorem padded_eq (k : Nat) (hk : 80 < k) (t : ByteArray) (ht : t.size ≤ 140737488351232) : stowageref03_padded.f k t = some (bytesOf t ++ tailB (bytesOf t).length t.size) := by
  unfold stowageref03_padded.f
  rw [if_pos (by omega), Option.bind_some, if_pos (by rw [bytesOf_length]; omega)]
  have h := padded_l0 t ht (bytesOf t) (bytesOf_length t) (padZ (bytesOf t).length) 0 k (by omega) (by unfold padZ; omega)
  rw [show (List.replicate 0 (0 : Int)) = [] from rfl] at h
  rw [h]
  simp [tailB]
theorem refsum_eq (k : Nat) (hk : 130 < k) (t : ByteArray) (ht : t.size ≤ 140737488351232) : stowageref03_Sum.f k t = some (sha t) := by
  unfold stowageref03_Sum.f
  have hl : (bytesOf t ++ tailB (bytesOf t).length t.size).length = t.size + 1 + padZ t.size + 8 := by
    simp [tailB, be8_len, bytesOf_length]; omega
  rw [padded_eq k (by omega) t ht, Option.bind_some, if_pos ⟨hk, by rw [hl]; unfold padZ; omega, by rw [hl]; omega, by rw [hl]; unfold padZ; omega, tailB_range (bytes_in t)⟩]
  rfl
end Go.Proofs.YtpgbkeaaklglkaaGreatDoor.Q