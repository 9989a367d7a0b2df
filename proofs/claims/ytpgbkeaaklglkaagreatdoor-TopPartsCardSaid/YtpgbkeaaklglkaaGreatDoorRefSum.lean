
/- The document's Sum: a call tells the digest as a plain function. -/
import Derived.Test.YtpgbkeaaklglkaaGreatDoorBlock
import Derived.Test.YtpgbkeaaklglkaaGreatDoorStepEq
namespace Go.Proofs.YtpgbkeaaklglkaaGreatDoor.Q
open Go.RowKit Go.Proofs.YtpgbkeaaklglkaaGreatDoorW.PrintWords Go.Proofs.YtpgbkeaaklglkaaGreatDoorW.PrintLast Go.Proofs.YtpgbkeaaklglkaaGreatDoorW.PrintMore
set_option linter.unusedVariables false
set_option linter.unusedSimpArgs false
set_option maxHeartbeats 10000000
set_option maxRecDepth 100000
def initS : List Int := [1779033703, 3144134277, 1013904242, 2773480762, 1359893119, 2600822924, 528734635, 1541459225]
def foldB (s bs : List Int) : Nat → List Int
  | 0 => s
  | q + 1 => blockF (foldB s bs q) ((bs.drop (64 * q)).take 64)
def byteOut (x : Int) : List Int := [x / 16777216 % 256, x / 65536 % 256, x / 256 % 256, x % 256]
def outs (s : List Int) : List Int := s.flatMap byteOut
theorem outs_succ (s : List Int) (i : Nat) (h : i < s.length) : outs (s.take (i + 1)) = outs (s.take i) ++ byteOut (s.getD i 0) := by
  rw [List.getD_eq_getElem?_getD, List.getElem?_eq_getElem h, List.take_add_one, List.getElem?_eq_getElem h]
  unfold outs
  rw [List.flatMap_append]
  simp
theorem outs_len (s : List Int) : (outs s).length = 4 * s.length := by
  induction s with
  | nil => rfl
  | cons x s ih =>
    have : outs (x :: s) = byteOut x ++ outs s := rfl
    rw [this, List.length_append, ih]
    simp [byteOut]
    omega
theorem C_of_cells8 {W : World} {ad : Addr} {n : Nat} {ys : List Int} (hl : ys.length = n) (hm : n ≤ 9223372036854775807) (h : ∀ i, i < n → W.cell? (ad.add i) = some (.int .u8 (ys.getD i 0))) : (Kd.int .u8).C W (some ad) n ys :=
  Kd.C_of_reads (enc := Value.int .u8) (d := (0 : Int)) (h1 := fun _ => rfl) ⟨hl, hm, fun _ => ⟨ad, rfl, h⟩⟩
theorem C_of_blk8 {W : World} {g t : Nat} {ys : List Int} (h : W.heap[g]? = some (.cells (ys.map (Value.int .u8)).toArray t (0, 0))) (hm : ys.length ≤ 9223372036854775807) : (Kd.int .u8).C W (some ⟨g, 0, none⟩) ys.length ys :=
  C_of_cells8 rfl hm (fun i hi => by
    rw [Addr.add_mid, Nat.zero_add, blk_cell h i]
    simp [List.getD, hi])
section
variable {ops : Array Oper} {rest : List Oper} {o : Oper} {a : Act} {W : World} {Q : Exit → Act → World → Prop} {Kc : Act → World → Prop}
theorem app8_step {w0 : World} (base : Nat) (hw : Region.wanted o (yielded ops a.tmps) = true) (s x : Operand) (ho : o.op = .call { callee := .builtin .append, args := #[s, x], argTypes := #[72, 72] })
    (v : Value) (xs ys : List Int) (A : Option Addr) (m c : Nat) (ok : Nat → Prop) (hs : a.eval s = v) (hx : a.eval x = .slice A m c)
    (HO : (Kd.int .u8).R 5 W base ok v xs) (HC : (Kd.int .u8).C W A m ys) (hfresh : ∀ k, W.heap.size ≤ k → ok k) (HB : Below base w0 W) (hbase : base ≤ W.heap.size) (hl : xs.length + m ≤ 140737488355328)
    (h : ∀ v1 w1, (Kd.int .u8).R 5 w1 base ok v1 (xs ++ ys) → Below base w0 w1 → W.grownBy w1 v.ownBlock → (v1.ownBlock = v.ownBlock ∨ ∃ b, v1.ownBlock = some b ∧ W.heap.size ≤ b) → Kc (a.put o.dst v1) w1) :
    if Region.wanted o (yielded ops a.tmps) = true then Oper.wp Tryz.prog o a W Kc Q else Kc (a.put o.dst undef) W :=
  Kd.R_append_rows_step (Kd.int .u8) (Rr := (Kd.int .u8).K W) base hw s x 72 5 (.int .u8 0) 1 ho Tryz.underlying72 info5 rfl (by decide) (by decide) v xs ys A m c ok (fun _ => False) hs hx HO HC (fun _ _ h => h) (fun _ h => h.elim) hfresh HB hbase (by omega) h
theorem app8 {w0 : World} (base : Nat) (hgd : o.guard = none) (s x : Operand) (ho : o.op = .call { callee := .builtin .append, args := #[s, x], argTypes := #[72, 72] })
    (v : Value) (xs ys : List Int) (A : Option Addr) (m c : Nat) (ok : Nat → Prop) (hs : a.eval s = v) (hx : a.eval x = .slice A m c)
    (HO : (Kd.int .u8).R 5 W base ok v xs) (HC : (Kd.int .u8).C W A m ys) (hfresh : ∀ k, W.heap.size ≤ k → ok k) (HB : Below base w0 W) (hbase : base ≤ W.heap.size) (hl : xs.length + m ≤ 140737488355328)
    (h : ∀ v1 w1, (Kd.int .u8).R 5 w1 base ok v1 (xs ++ ys) → Below base w0 w1 → W.grownBy w1 v.ownBlock → (v1.ownBlock = v.ownBlock ∨ ∃ b, v1.ownBlock = some b ∧ W.heap.size ≤ b) → wpList Tryz.prog ops Q rest (a.put o.dst v1) w1) :
    wpList Tryz.prog ops Q (o :: rest) a W :=
  Kd.R_append_row (Value.int .u8) (0 : Int) (h1 := fun _ => rfl) base hgd s x 72 5 (.int .u8 0) 1 ho Tryz.underlying72 info5 rfl (by decide) v xs ys A m c ok hs hx hfresh HO HC HB hbase (by omega) h
end
theorem IsArr.grown {W W' : World} {g t : Nat} {xs : List Int} {row : Option Nat} (h : IsArr W g t xs) (hg : W.grownBy W' row) (hne : some g ≠ row) : IsArr W' g t xs := (hg.block _ h.lt hne).trans h
theorem not_own {e : Nat} {W : World} {base : Nat} {v : Value} {xs : List Int} {g : Nat} (h : (Kd.int .u8).R e W base (fun k => k ≠ g) v xs) : some g ≠ v.ownBlock := fun e => h.1 g e.symm rfl
def Cells8 (W : World) (g o : Nat) (p : List Int) : Prop := ∀ i, i < p.length → W.cell? ⟨g, o + i, none⟩ = some (.int .u8 (p.getD i 0))
theorem Cells8.below {W W' : World} {g o : Nat} {p : List Int} (h : Cells8 W g o p) (hb : Below W.heap.size W W') : Cells8 W' g o p := fun i hi => below_cell (h i hi) hb
theorem Cells8.farRow {W : World} {g o k : Nat} {p : List Int} (h : Cells8 W g o p) (hk : g ≠ k) (cs : Array Value) : Cells8 (W.setRow k cs) g o p := fun i hi => (cell_setRow_other W k cs _ hk).trans (h i hi)
theorem Cells8.drewN {W : World} {g o : Nat} {p : List Int} (h : Cells8 W g o p) (n : Nat) : Cells8 (W.drewN n) g o p := h
theorem Cells8.drop {W : World} {g o : Nat} {p : List Int} (h : Cells8 W g o p) (n : Nat) : Cells8 W g (o + n) (p.drop n) := fun i hi => by
  rw [List.length_drop] at hi
  have := h (n + i) (by omega)
  rw [Nat.add_assoc, this]
  simp [List.getD_eq_getElem?_getD, List.getElem?_drop]
theorem Cells8.take {W : World} {g o : Nat} {p : List Int} (h : Cells8 W g o p) (n : Nat) : Cells8 W g o (p.take n) := fun i hi => by
  rw [List.length_take] at hi
  rw [h i (by omega)]
  simp [List.getD_eq_getElem?_getD, List.getElem?_take, show i < n by omega]
theorem Cells8.C {W : World} {g o : Nat} {p : List Int} (h : Cells8 W g o p) (hm : p.length ≤ 9223372036854775807) : (Kd.int .u8).C W (some ⟨g, o, none⟩) p.length p := C_of_cells8 rfl hm (fun i hi => by rw [Addr.add_mid]; exact h i hi)
theorem Cells8.grown {W W' : World} {g o : Nat} {p : List Int} {row : Option Nat} (h : Cells8 W g o p) (hg : W.grownBy W' row) (hne : some g ≠ row) : Cells8 W' g o p := fun i hi => by
  have hc := h i hi
  have hl := World.block_lt_of_cell? W _ hc
  rw [← hc]
  unfold World.cell?
  rw [hg.block g hl hne]
theorem cells_of_R {W : World} {base : Nat} {ok : Nat → Prop} {v : Value} {p : List Int} (h : (Kd.int .u8).R 5 W base ok v p) (hp : 0 < p.length) : ∃ g c, v = .slice (some ⟨g, 0, none⟩) p.length c ∧ base ≤ g ∧ g < W.heap.size ∧ p.length ≤ c ∧ Cells8 W g 0 p := by
  obtain ⟨g, c, rfl, hb, hl, _⟩ := Kd.R_form h hp
  obtain ⟨_, hc, hC⟩ := Kd.R_reads' h
  refine ⟨g, c, rfl, hb, hl, hc, fun i hi => ?_⟩
  obtain ⟨ad, e, hcell⟩ := Kd.at_int hC (i : Int) (by omega) (by omega)
  cases e
  rw [Nat.zero_add]
  rw [Addr.add_mid, Int.toNat_natCast, Nat.zero_add] at hcell
  exact hcell
def stowageref03_Sum.f (k : Nat) (a0 : ByteArray) : Option ByteArray := (stowageref03_padded.f k a0).bind fun p => if 130 < k ∧ p.length % 64 = 0 ∧ 0 < p.length ∧ p.length ≤ 140737488355328 ∧ (∀ x ∈ p, 0 ≤ x ∧ x < 256) then some (strOfNums (outs (foldB initS p (p.length / 64)))) else none
theorem initS_in : InR initS := by
  intro x hx
  simp only [initS, List.mem_cons, List.not_mem_nil, or_false] at hx
  omega
theorem RM_cell8 {W : World} {base n c gp : Nat} {ok : Nat → Prop} {p : List Int} (h : Marked.RM 5 W base ok (.slice (some ⟨gp, 0, none⟩) n c) p) (i : Nat) (hi : i < p.length) : W.cell? ⟨gp, i, none⟩ = some (.int .u8 (p.getD i 0)) := by
  refine Marked.RM_cells h i _ ?_
  simp [nums, List.getElem?_eq_getElem hi, List.getD_eq_getElem?_getD]
theorem run_loadArr {f : Operand → Value} {W : World} {g : Nat} {xs : List Int} (o : Oper) (x : Operand) (ho : o.op = .load 97 x) (hx : f x = .pointer (some ⟨g, 0, none⟩)) (h : IsArr W g 97 xs) (hl : xs.length = 8) : (execOp f o).run Tryz.prog W = .ok (.value (.agg (arr xs))) W := by
  have hr := run_loadVar_row (P := Tryz.prog) W g 97 97 (arr xs) (0, 0) _ h Tryz.underlying97 rfl (by rw [arr_size, hl]; exact sizes97)
  unfold execOp
  simp only [ho, hx, Instr.loadAt, Instr.sureAddr, Sem.run_bind, Sem.run_pure, Result.andThen_ok, hr]
theorem run_storeArr {f : Operand → Value} {W : World} {g : Nat} {xs old : List Int} (o : Oper) (x y : Operand) (ho : o.op = .store 97 x y) (hx : f x = .pointer (some ⟨g, 0, none⟩)) (hy : f y = .agg (arr xs)) (h : IsArr W g 97 old) (hl : xs.length = 8) (hl2 : old.length = 8) : (execOp f o).run Tryz.prog W = .ok .skip (W.setRow g (arr xs)) := by
  have hr := run_storeVar_row (P := Tryz.prog) W g 97 97 (arr old) (arr xs) h (by rw [arr_size, hl]; exact sizes97) (by rw [arr_size, arr_size, hl, hl2]) (arr_one _)
  unfold execOp
  simp only [ho, hx, hy, Instr.storeAt, Instr.sureAddr, Sem.run_bind, Sem.run_pure, Result.andThen_ok, hr]
theorem stowageref03_Sum.calls (k : Nat) (a0 : ByteArray) (r : ByteArray) (w : World) (h : stowageref03_Sum.f k a0 = some r) :
    Calls Tryz.prog 74 #[.string a0] w fun e w' => e = .returned (.string r) ∧ Below w.heap.size w w' := by
  have hu43 := Tryz.underlying97
  unfold stowageref03_Sum.f at h
  obtain ⟨p, hp, h⟩ := Option.bind_eq_some_iff.1 h
  by_cases hc : 130 < k ∧ p.length % 64 = 0 ∧ 0 < p.length ∧ p.length ≤ 140737488355328 ∧ (∀ x ∈ p, 0 ≤ x ∧ x < 256)
  case neg => rw [if_neg hc] at h; exact absurd h (by simp)
  rw [if_pos hc] at h
  have HC := Aside0.mk hc
  have HP := Aside0.mk hp
  have HR := Aside0.mk (Option.some.inj h)
  clear hc hp h
  go_enter Tryz.func74, Tryz.ntmps74
  go_wp2_with (first
    | ((with_reducible refine gate_dst (N := 3) rfl ?_); refine box_event rfl (N := 3) rfl (cs := arr z8) (t := 97) ?hr ?_; (case hr => first | (go_simp; done) | (go_simp; rfl)); intro g3 hg w1 hk3 hB1
       have S3 : Aside0 (IsArr w1 g3 97 z8) := ⟨hk3⟩
       have G3 : Aside0 (w.heap.size ≤ g3) := ⟨by omega⟩
       have B1 := Aside0.mk hB1
       clear hk3 hB1 hg)
    | ((with_reducible refine gate_store (t := 97) (p := 3) (v := .tmp 8) rfl ?_); refine wpList_store_row (P := Tryz.prog) rfl 97 (.tmp 3) (.tmp 8) rfl g3 (arr initS) ?h1 ?h2 97 _ S3.out ?h3 rfl (arr_one _) ?_; (case h1 => rfl); (case h2 => rfl); (case h3 => exact sizes97)
       have X3 : Aside0 (IsArr (w1.setRow g3 (arr initS)) g3 97 initS) := ⟨S3.out.row _⟩
       have XB : Aside0 (Below w.heap.size w (w1.setRow g3 (arr initS))) := ⟨below_row B1.out G3.out _⟩
       clear S3 B1
       generalize w1.setRow g3 (arr initS) = w2 at X3 XB ⊢))
  refine (stowageref03_padded.calls k a0 p _ HP.out).mono ?_
  rintro e w3 ⟨v0, rfl, hRM, hb3⟩
  obtain ⟨gp, cp, hv, hgp, hgl, _, _⟩ := Marked.RM_form hRM HC.out.2.2.1
  subst hv
  have RP : Aside0 (Cells8 w3 gp 0 p) := ⟨fun i hi => by rw [Nat.zero_add]; exact RM_cell8 hRM i hi⟩
  have LP : Aside0 (p.length ≤ cp) := ⟨(Marked.RM_reads' hRM).2.1⟩
  have Y3 : Aside0 (IsArr w3 g3 97 initS) := ⟨X3.out.below hb3⟩
  have YB : Aside0 (Below w.heap.size w w3) := ⟨below_step XB.out hb3⟩
  have NP : Aside0 (gp ≠ g3) := ⟨by have := X3.out.lt; omega⟩
  have GP : Aside0 (w.heap.size ≤ gp ∧ gp < w3.heap.size) := ⟨by have := XB.out.size; omega, hgl⟩
  clear X3 XB hRM hb3 hgp hgl
  go_wp2_with (fail)
  go_loopg [5] (p.length / 64 + 1) (fun kq v5 w' => ∃ (q : Nat) (h0 h1 h2 h3 h4 h5 h6 h7 : Int), v5 = .int .i64 ((64 * q : Nat) : Int) ∧ Aside0 (q + kq = p.length / 64 + 1 ∧ 64 * q ≤ p.length) ∧ Aside0 (IsArr w' g3 97 [h0, h1, h2, h3, h4, h5, h6, h7]) ∧ Aside0 (foldB initS p q = [h0, h1, h2, h3, h4, h5, h6, h7]) ∧ Aside0 (InR [h0, h1, h2, h3, h4, h5, h6, h7]) ∧ Aside0 (Cells8 w' gp 0 p) ∧ Aside0 (Below w.heap.size w w'))
  case atStart => exact ⟨0, _, _, _, _, _, _, _, _, rfl, ⟨by omega, by omega⟩, Y3, ⟨rfl⟩, ⟨initS_in⟩, RP, YB⟩
  case round =>
    clear Y3 RP YB
    obtain ⟨q, h0, h1, h2, h3, h4, h5, h6, h7, rfl, HQ, T3, HF, HI, RP, YB⟩ := hrel
    cases gk with
    | zero => have := HQ.out; have := HC.out.2.1; omega
    | succ k1 =>
      obtain ⟨i, hi⟩ : ∃ i : Nat, i = 64 * q := ⟨_, rfl⟩
      rw [← hi]
      have HJ := Aside0.mk hi
      by_cases hq : i < p.length
      · have hlt : ((i : Int) < (p.length : Int)) = True := eq_true (by omega)
        clear hi
        obtain ⟨j, hj⟩ : ∃ j : Nat, j = i + 64 := ⟨_, rfl⟩
        have e64 : IntKind.i64.wrap ((i : Int) + 64) = (j : Int) := (i64_w _).trans ((IntWalk.wrap64_in _ (by have := HC.out.2.2.2.1; omega)).trans (by omega))
        have hle : j ≤ p.length := by have := HC.out.2.1; have := HJ.out; omega
        have hij : ((i : Int) ≤ (j : Int)) = True := eq_true (by omega)
        have hjc : ((j : Int) ≤ (cp : Int)) = True := eq_true (by have := LP.out; omega)
        have hci : (cp = i) = False := eq_false (by have := LP.out; omega)
        have hji : j - i = 64 := by omega
        have HJ2 := Aside0.mk hj
        have HLE := Aside0.mk hle
        clear hj hle
        go_wp2_with (fail)
        refine start_ (n := 8) (S := fun w' => IsArr w' g3 97 [h0, h1, h2, h3, h4, h5, h6, h7]) (ds := [7]) #[false, false, false, false, false, false, false, false] (by kernel_rfl) rfl rfl T3.out.drew (fun hHeld => ?_)
        refine take_ (i := 0) (N := some 17) (v := ?_) (a' := ?_) #[true, false, false, false, false, false, false, false] rfl rfl (by kernel_rfl) (fun _ _ _ h => h) (Or.inl ⟨by rfl, ?_⟩) (by first | exact hHeld | assumption) ?_ ?_
        rotate_left
        · rintro w' s0
          refine run_loadArr _ (.tmp 3) ?_ ?_ s0 ?_
          all_goals rfl
        rotate_left
        · simp only [Act.put, List.setIfInBounds_toArray, List.set_cons_zero, List.set_cons_succ]
          rfl
        refine pz 1 18 ?_
        refine pz 2 19 ?_
        refine pz 3 20 ?_
        refine pz 4 21 ?_
        refine pz 5 22 ?_
        refine one_ (i := 6) (N := some 23) #[true, true, true, true, true, true, true, false] rfl rfl (by kernel_rfl) (by decide) (fun K hK => ?_)
        have hlen : ((p.drop i).take 64).length = 64 := by rw [List.length_take, List.length_drop]; have := HLE.out; have := HJ2.out; omega
        obtain ⟨r0, r1, r2, r3, r4, r5, r6, r7, hs, hb8, hin⟩ := step_eq k HC.out.1 h0 h1 h2 h3 h4 h5 h6 h7 ((p.drop i).take 64) hlen (fun x hx => HC.out.2.2.2.2 x (List.mem_of_mem_drop (List.mem_of_mem_take hx))) HI.out
        have hcells : Cells8 wr gp i ((p.drop i).take 64) := by have := (RP.out.drop i).take 64; rwa [Nat.zero_add] at this
        have hcall := stowageref03_step.calls k h0 h1 h2 h3 h4 h5 h6 h7 (some ⟨gp, i, none⟩) (cp - i) ((p.drop i).take 64) r0 r1 r2 r3 r4 r5 r6 r7 wr.drew (Cells8.C (W := wr.drew) hcells (by rw [hlen]; decide)) (by rw [hlen]; have := LP.out; have := HLE.out; have := HJ2.out; omega) hs
        rw [hlen] at hcall
        refine call_ 91 #[.agg (arr [h0, h1, h2, h3, h4, h5, h6, h7]), .slice (some ⟨gp, i, none⟩) 64 (cp - i)] (by rfl) rfl (by first | (go_simp; done) | (go_simp; rfl)) ?_
        refine hcall.mono ?_
        rintro e w6 ⟨rfl, hb6⟩
        have V3 : Aside0 (IsArr w6 g3 97 [h0, h1, h2, h3, h4, h5, h6, h7]) := ⟨T3.out.drew.below hb6⟩
        have VP : Aside0 (Cells8 w6 gp 0 p) := ⟨Cells8.below (W := wr.drew) RP.out hb6⟩
        have VB : Aside0 (Below w.heap.size w w6) := ⟨below_step (below_drew1 YB.out) hb6⟩
        have HB8 := Aside0.mk hb8
        have HIN := Aside0.mk hin
        refine ⟨_, rfl, hK.out _ _ V3.out (fun hHeld => ?_)⟩
        clear hK K hcells hcall hs hb8 hin hlen hb6 T3 RP YB
        refine nz 23 ?_
        refine last_ (i := 7) (N := none) #[true, true, true, true, true, true, true, true] rfl rfl (by kernel_rfl) (by decide) (fun K hK => ?_)
        refine skip_ (w1 := w6.setRow g3 (arr [r0, r1, r2, r3, r4, r5, r6, r7])) (by rfl) rfl ?_ ?_
        · refine run_storeArr _ (.tmp 3) (.tmp 23) ?_ ?_ ?_ V3.out rfl rfl
          all_goals rfl
        refine hK.out _ _ ?_
        clear hK K
        refine done_ (by kernel_rfl) ?_
        go_wp2
        go_roundg k1
        case measure => have := HQ.out; omega
        case rel => exact ⟨q + 1, r0, r1, r2, r3, r4, r5, r6, r7, by have h1 := HJ.out; have h2 := HJ2.out; first | (simp; omega) | (simp only [Value.int.injEq, true_and]; omega), ⟨by have := HQ.out; omega, by have h1 := HJ.out; have h2 := HJ2.out; have := HLE.out; omega⟩, ⟨V3.out.row _⟩, ⟨by rw [foldB, HF.out, ← HJ.out]; exact HB8.out⟩, HIN, ⟨VP.out.farRow NP.out _⟩, ⟨below_row VB.out G3.out _⟩⟩
      · have hlt : ((i : Int) < (p.length : Int)) = False := eq_false (by omega)
        have hqe : q = p.length / 64 := by have := HQ.out; have := HC.out.2.1; omega
        have HFL : Aside0 (foldB initS p (p.length / 64) = [h0, h1, h2, h3, h4, h5, h6, h7]) := ⟨by rw [← hqe]; exact HF.out⟩
        clear hi hqe
        go_wp2_with (fail)
        go_loopg [6, 7] 9 (fun kq v6 v7 w' => ∃ (m : Nat), v7 = .int .i64 (m : Int) ∧ Aside0 (m + kq = 9 ∧ m ≤ 8) ∧ Aside0 (IsArr w' g3 97 [h0, h1, h2, h3, h4, h5, h6, h7]) ∧ Aside0 ((Kd.int .u8).R 5 w' w.heap.size (fun k => k ≠ g3) v6 (outs ([h0, h1, h2, h3, h4, h5, h6, h7].take m))) ∧ Aside0 (Below w.heap.size w w'))
        case atStart => exact ⟨0, rfl, ⟨by omega, by omega⟩, T3, ⟨Kd.R_nil _ _ _ _ _⟩, YB⟩
        case round =>
          clear T3 RP YB
          obtain ⟨m, rfl, HM, T3, RO, YB⟩ := hrel
          cases gk with
          | zero => have := HM.out; omega
          | succ k1 =>
            by_cases hm : m < 8
            · have hlt2 : ((m : Int) < 8) = True := eq_true (by omega)
              have ch := T3.out.cell (n := m) (by exact hm)
              obtain ⟨x, yx⟩ : ∃ x : Int, x = [h0, h1, h2, h3, h4, h5, h6, h7].getD m 0 := ⟨_, rfl⟩
              rw [← yx] at ch
              have YX := Aside0.mk yx
              clear yx
              go_wp2_with (fail)
              refine start_ (n := 23) (S := fun w' => w'.cell? ⟨g3, m, none⟩ = some (.int .u32 x)) (ds := []) #[false, false, false, false, false, false, false, false, false, false, false, false, false, false, false, false, false, false, false, false, false, false, false] (by kernel_rfl) rfl rfl ch (fun hHeld => ?_)
              refine pz 0 28 ?_
              refine pz 1 29 ?_
              refine pz 2 30 ?_
              refine tz 3 31 ?_
              refine pz 4 32 ?_
              refine pz 5 33 ?_
              refine pz 6 34 ?_
              refine pz 7 35 ?_
              refine tz 8 36 ?_
              refine pz 9 37 ?_
              refine pz 10 38 ?_
              refine pz 11 39 ?_
              refine pz 12 40 ?_
              refine tz 13 41 ?_
              refine pz 14 42 ?_
              refine pz 15 43 ?_
              refine pz 16 44 ?_
              refine pz 17 45 ?_
              refine tz 18 46 ?_
              refine pz 19 47 ?_
              refine one_ (i := 20) (N := some 48) #[true, true, true, true, true, true, true, true, true, true, true, true, true, true, true, true, true, true, true, true, true, false, false] rfl rfl (by kernel_rfl) (by decide) (fun K hK => ?_)
              refine value_ (v := .slice (some ⟨wr.drew.heap.size, 0, none⟩) 4 4) (w1 := wr.drew.alloc (.cells ((byteOut x).map (Value.int .u8)).toArray 5)) (by rfl) rfl (by first | (go_simp; done) | (go_simp; rfl)) ?_
              have hq3 : Aside0 (IsArr (wr.drew.alloc (.cells ((byteOut x).map (Value.int .u8)).toArray 5)) g3 97 [h0, h1, h2, h3, h4, h5, h6, h7]) := ⟨T3.out.drew.alloc _⟩
              have hq4 : Aside0 ((wr.drew.alloc (.cells ((byteOut x).map (Value.int .u8)).toArray 5)).heap[wr.drew.heap.size]? = some (.cells ((byteOut x).map (Value.int .u8)).toArray 5 (0, 0))) := ⟨heap_alloc_new _ _⟩
              have hqR := Aside0.mk (Kd.R_alloc (Kd.R_drew RO.out) (.cells ((byteOut x).map (Value.int .u8)).toArray 5))
              have hqB : Aside0 (Below w.heap.size w (wr.drew.alloc (.cells ((byteOut x).map (Value.int .u8)).toArray 5))) := ⟨below_alloc (below_drew1 YB.out) _⟩
              generalize wr.drew.alloc (.cells ((byteOut x).map (Value.int .u8)).toArray 5) = w5 at hq3 hq4 hqR hqB ⊢
              generalize wr.drew.heap.size = gr at hq4 ⊢
              refine hK.out _ _ ((hq3.out.cell (by exact hm)).trans (by rw [← YX.out])) (fun hHeld => ?_)
              clear hK K
              refine nz 48 ?_
              refine one_ (i := 21) (N := some 49) #[true, true, true, true, true, true, true, true, true, true, true, true, true, true, true, true, true, true, true, true, true, true, false] rfl rfl (by kernel_rfl) (by decide) (fun K hK => ?_)
              refine app8_step w.heap.size (by rfl) (.tmp 28) (.tmp 48) rfl _ _ (byteOut x) (some ⟨gr, 0, none⟩) 4 4 (fun k => k ≠ g3) ?hs ?hx hqR.out (C_of_blk8 hq4.out (by simp [byteOut])) (fun k hk => by have := hq3.out.lt; omega) hqB.out hqB.out.size (by rw [outs_len, List.length_take]; simp only [List.length_cons, List.length_nil]; omega) ?_
              case hs => rfl
              case hx => rfl
              intro v1 w7 hR7 hB7 hg7 _
              have H7 : Aside0 (IsArr w7 g3 97 [h0, h1, h2, h3, h4, h5, h6, h7]) := ⟨hq3.out.grown hg7 (not_own hqR.out)⟩
              have RO7 := Aside0.mk hR7
              have B7 := Aside0.mk hB7
              clear hR7 hB7 hg7 hq3 hq4 hqR hqB
              refine hK.out _ _ ((H7.out.cell (by exact hm)).trans (by rw [← YX.out])) (fun hHeld => ?_)
              clear hK K
              refine nz 49 ?_
              refine pz 22 6 ?_
              refine done_ (by kernel_rfl) ?_
              go_wp2
              go_roundg k1
              case measure => have := HM.out; omega
              case rel => exact ⟨m + 1, by first | rfl | simp, ⟨by have := HM.out; omega, by omega⟩, H7, ⟨by rw [outs_succ _ _ (by exact hm), ← YX.out]; exact RO7.out⟩, B7⟩
            · have hlt2 : ((m : Int) < 8) = False := eq_false (by omega)
              obtain rfl : m = 8 := by have := HM.out; omega
              have hconv := own_string (P := Tryz.prog) Tryz.underlying72 Tryz.underlying5 Tryz.underlying9 (Kd.own_of_R RO.out)
              go_wp2
              go_ret
              exact ⟨by rw [← HR.out, HFL.out]; rfl, YB.out⟩
theorem stowageref03_Sum.mono : ∀ a0 k, LeO (stowageref03_Sum.f k a0) (stowageref03_Sum.f (k + 1) a0) := by
  intro a0 k r h
  unfold stowageref03_Sum.f at h ⊢
  obtain ⟨p, hp, h⟩ := Option.bind_eq_some_iff.1 h
  refine Option.bind_eq_some_iff.2 ⟨p, stowageref03_padded.mono a0 k p hp, ?_⟩
  by_cases hc : 130 < k ∧ p.length % 64 = 0 ∧ 0 < p.length ∧ p.length ≤ 140737488355328 ∧ (∀ x ∈ p, 0 ≤ x ∧ x < 256)
  · rw [if_pos hc] at h
    rw [if_pos ⟨by omega, hc.2⟩]
    exact h
  · rw [if_neg hc] at h
    exact absurd h (by simp)
end Go.Proofs.YtpgbkeaaklglkaaGreatDoor.Q