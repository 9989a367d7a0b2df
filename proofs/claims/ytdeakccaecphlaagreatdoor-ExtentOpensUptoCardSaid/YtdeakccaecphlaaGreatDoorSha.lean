/- digest.Sum and Hex; the document's Sum tells the same. -/
import Derived.Test.YtdeakccaecphlaaGreatDoorHash
import Derived.Test.YtdeakccaecphlaaGreatDoorStepEq
namespace Go.Proofs.YtdeakccaecphlaaGreatDoor.Q
open Go.RowKit Go.Proofs.YtdeakccaecphlaaGreatDoorW.PrintWords Go.Proofs.YtdeakccaecphlaaGreatDoorW.PrintLast Go.Proofs.YtdeakccaecphlaaGreatDoorW.PrintMore
set_option linter.unusedVariables false
set_option linter.unusedSimpArgs false
set_option maxHeartbeats 10000000
set_option maxRecDepth 100000
def InB (xs : List Int) : Prop := ∀ x ∈ xs, 0 ≤ x ∧ x < 256
theorem block_in {s b : List Int} (hs : s.length = 8 ∧ InR s) (hb : b.length = 64) (hr : InB b) : (blockF s b).length = 8 ∧ InR (blockF s b) := by
  obtain ⟨s0, s1, s2, s3, s4, s5, s6, s7, rfl⟩ := len8 hs.1
  obtain ⟨r0, r1, r2, r3, r4, r5, r6, r7, _, h8, hi⟩ := step_eq 131 (by omega) s0 s1 s2 s3 s4 s5 s6 s7 b hb hr hs.2
  rw [h8]
  exact ⟨rfl, hi⟩
theorem foldB_in {s xs : List Int} (hs : s.length = 8 ∧ InR s) (hx : InB xs) : ∀ q, 64 * q ≤ xs.length → (foldB s xs q).length = 8 ∧ InR (foldB s xs q)
  | 0, _ => hs
  | q + 1, h => by
    rw [foldB]
    exact block_in (foldB_in hs hx q (by omega)) (by rw [List.length_take, List.length_drop]; omega) (fun x h => hx x (List.mem_of_mem_drop (List.mem_of_mem_take h)))
theorem foldB_append {s xs ys : List Int} : ∀ q, 64 * q ≤ xs.length → foldB s (xs ++ ys) q = foldB s xs q
  | 0, _ => rfl
  | q + 1, h => by
    rw [foldB, foldB, foldB_append q (by omega)]
    congr 1
    rw [List.drop_append_of_le_length (by omega), List.take_append_of_le_length (by rw [List.length_drop]; omega)]
theorem foldB_join {s xs ys : List Int} (q : Nat) (hq : 64 * q ≤ xs.length) : ∀ k, foldB (foldB s xs q) (xs.drop (64 * q) ++ ys) k = foldB s (xs ++ ys) (q + k)
  | 0 => (foldB_append q hq).symm
  | k + 1 => by
    rw [foldB, foldB_join q hq k, ← Nat.add_assoc, foldB]
    congr 2
    rw [← List.drop_append_of_le_length hq, List.drop_drop]
    congr 1
    omega
def qOf (xs : List Int) : Nat := xs.length / 64
def stateOf (xs : List Int) : List Int := foldB initS xs (qOf xs)
def restOf (xs : List Int) : List Int := xs.drop (64 * qOf xs)
def shaOf (xs : List Int) (m : Int) : List Int := outs (foldB initS (xs ++ tailB xs.length m) ((xs ++ tailB xs.length m).length / 64))
theorem q_le (xs : List Int) : 64 * qOf xs ≤ xs.length := by unfold qOf; omega
theorem rest_len (xs : List Int) : (restOf xs).length = xs.length % 64 := by unfold restOf; rw [List.length_drop]; unfold qOf; omega
theorem join_q (xs ys : List Int) : qOf xs + (restOf xs ++ ys).length / 64 = qOf (xs ++ ys) := by
  rw [List.length_append, rest_len]; unfold qOf; rw [List.length_append]; omega
theorem join_state (xs ys : List Int) : foldB (stateOf xs) (restOf xs ++ ys) ((restOf xs ++ ys).length / 64) = stateOf (xs ++ ys) := by
  unfold stateOf
  rw [← join_q xs ys]
  exact foldB_join (qOf xs) (q_le xs) _
theorem join_rest (xs ys : List Int) : (restOf xs ++ ys).drop (64 * ((restOf xs ++ ys).length / 64)) = restOf (xs ++ ys) := by
  rw [restOf, restOf, ← join_q xs ys, ← List.drop_append_of_le_length (q_le xs), List.drop_drop]
  congr 1
  show 64 * qOf xs + 64 * ((List.drop (64 * qOf xs) (xs ++ ys)).length / 64) = 64 * (qOf xs + (restOf xs ++ ys).length / 64)
  rw [restOf, ← List.drop_append_of_le_length (q_le xs), Nat.mul_add]
theorem padZ_mod (n : Nat) : padZ (n % 64) = padZ n := by unfold padZ; rw [Nat.mod_mod]
theorem join_sha (xs : List Int) (m : Int) : outs (foldB (stateOf xs) (restOf xs ++ tailB (restOf xs).length m) ((restOf xs ++ tailB (restOf xs).length m).length / 64)) = shaOf xs m := by
  have h : tailB (restOf xs).length m = tailB xs.length m := by unfold tailB; rw [rest_len, padZ_mod]
  rw [h, join_state]
  rfl
theorem stateOf_in {xs : List Int} (hx : InB xs) : (stateOf xs).length = 8 ∧ InR (stateOf xs) := foldB_in ⟨rfl, initS_in⟩ hx _ (q_le xs)
theorem restOf_in {xs : List Int} (hx : InB xs) : InB (restOf xs) := fun x h => hx x (List.mem_of_mem_drop h)
def Took (W : World) (base g : Nat) (xs : List Int) : Prop := IsHash W base g (stateOf xs) (restOf xs) (wr64 xs.length) ∧ InB xs
theorem Took.below {W W' : World} {base g : Nat} {xs : List Int} (h : Took W base g xs) (hb : Below W.heap.size W W') : Took W' base g xs := ⟨h.1.below hb, h.2⟩
theorem wr64_add (a b : Int) : wr64 (wr64 a + b) = wr64 (a + b) := by unfold wr64; omega
theorem T_New (w0 w : World) (hB : Below w0.heap.size w0 w) :
    Calls Tryz.prog 76 #[] w fun e w' => ∃ g : Nat, e = .returned (.pointer (some ⟨g, 0, none⟩)) ∧ Took w' w0.heap.size g [] ∧ Below w0.heap.size w0 w' ∧ Below w.heap.size w w' := by
  refine (digest_New.calls2 w0 w hB).mono ?_
  rintro e w' ⟨g, rfl, h, h2, h3⟩
  exact ⟨g, rfl, ⟨h, fun x hx => by simp at hx⟩, h2, h3⟩
theorem bytes_in (t : ByteArray) : InB (bytesOf t) := fun x h => bytes_range t x h
theorem in_append {xs ys : List Int} (h1 : InB xs) (h2 : InB ys) : InB (xs ++ ys) := fun x h => by
  rcases List.mem_append.1 h with h | h
  · exact h1 x h
  · exact h2 x h
theorem T_Write {w0 w : World} {g : Nat} {xs : List Int} (h : Took w w0.heap.size g xs) (t : ByteArray) (hB : Below w0.heap.size w0 w) (hG : InG w) (h0 : 0 < w0.heap.size) (hl : t.size ≤ 140737488355200) :
    Calls Tryz.prog 77 #[.pointer (some ⟨g, 0, none⟩), .string t] w fun e w' => e = .returned (.tuple #[]) ∧ Took w' w0.heap.size g (xs ++ bytesOf t) ∧ Below w0.heap.size w0 w' := by
  refine (digest_Hash_Write.calls w0 g (stateOf xs) (restOf xs) (wr64 xs.length) t w h.1 hB hG h0 (by rw [rest_len]; omega) (restOf_in h.2) (stateOf_in h.2).2).mono ?_
  rintro e w' ⟨rfl, h1, h2⟩
  refine ⟨rfl, ⟨?_, in_append h.2 (bytes_in t)⟩, h2⟩
  rw [join_state, join_rest, wr64_add] at h1
  rw [List.length_append, bytesOf_length, Int.natCast_add]
  exact h1
theorem T_Sum {w0 w : World} {g : Nat} {xs : List Int} (h : Took w w0.heap.size g xs) (hG : InG w) :
    Calls Tryz.prog 78 #[.pointer (some ⟨g, 0, none⟩)] w fun e w' => e = .returned (.string (strOfNums (shaOf xs (wr64 xs.length)))) ∧ Below w.heap.size w w' := by
  refine (digest_Hash_Sum.calls w0 g (stateOf xs) (restOf xs) (wr64 xs.length) w h.1 hG (by rw [rest_len]; omega) (restOf_in h.2) (stateOf_in h.2).2).mono ?_
  rintro e w' ⟨rfl, h1⟩
  exact ⟨by rw [join_sha], h1⟩
def sha (t : ByteArray) : ByteArray := strOfNums (shaOf (bytesOf t) t.size)
theorem wr64_id (n : Nat) (h : n < 18446744073709551616) : wr64 n = n := by unfold wr64; omega
theorem InG.pos {w : World} (h : InG w) : 0 < w.heap.size := by have := World.block_lt_of_cell? w _ (h 0 (by omega)); simpa using this
def dig (d : Int) : Int := if d < 10 then 48 + d else 87 + d
def hexL (xs : List Int) : List Int := xs.flatMap fun x => [dig (x / 16), dig (x % 16)]
def hexF (t : ByteArray) : ByteArray := strOfNums (hexL (bytesOf t))
def digitsS : ByteArray := ⟨#[48, 49, 50, 51, 52, 53, 54, 55, 56, 57, 97, 98, 99, 100, 101, 102]⟩
theorem digits_at (d : Int) (h0 : 0 ≤ d) (h1 : d < 16) (W : World) : (Instr.index 9 (.string digitsS) (.int .u8 d)).run Tryz.prog W = .ok (.int .u8 (dig d)) W := by
  have : d = 0 ∨ d = 1 ∨ d = 2 ∨ d = 3 ∨ d = 4 ∨ d = 5 ∨ d = 6 ∨ d = 7 ∨ d = 8 ∨ d = 9 ∨ d = 10 ∨ d = 11 ∨ d = 12 ∨ d = 13 ∨ d = 14 ∨ d = 15 := by omega
  rw [run_index_string W 9 digitsS .u8 d Tryz.underlying9]
  rcases this with rfl | rfl | rfl | rfl | rfl | rfl | rfl | rfl | rfl | rfl | rfl | rfl | rfl | rfl | rfl | rfl <;> rfl
theorem str_at (t : ByteArray) (n : Nat) (h : n < t.size) (W : World) : (Instr.index 9 (.string t) (.int .i64 (n : Int))).run Tryz.prog W = .ok (.int .u8 (bt t n)) W := by
  rw [run_index_string W 9 t .i64 n Tryz.underlying9, dif_pos (by omega)]
  rw [bt_at]
theorem and15 (b : Int) (h0 : 0 ≤ b) (h1 : b < 256) : Go.bits .and .u8 b 15 = b % 16 := by
  obtain ⟨n, rfl⟩ := Int.eq_ofNat_of_zero_le h0
  have hn : n < 256 := by omega
  have : ∀ k : Fin 256, Go.bits .and .u8 ((k.val : Nat) : Int) 15 = ((k.val : Nat) : Int) % 16 := by decide
  exact this ⟨n, hn⟩
theorem bytesOf_bt (t : ByteArray) (n : Nat) (h : n < t.size) : (bytesOf t).getD n 0 = bt t n := by
  unfold bytesOf bt
  rw [dif_pos (by simpa using h)]
  simp [List.getD_eq_getElem?_getD, h]
  rfl
theorem hexL_succ (xs : List Int) (n : Nat) (h : n < xs.length) : hexL (xs.take (n + 1)) = hexL (xs.take n) ++ [dig (xs.getD n 0 / 16), dig (xs.getD n 0 % 16)] := by
  rw [List.getD_eq_getElem?_getD, List.getElem?_eq_getElem h, List.take_add_one, List.getElem?_eq_getElem h]
  unfold hexL
  rw [List.flatMap_append]
  simp
theorem hexL_len (xs : List Int) : (hexL xs).length = 2 * xs.length := by
  induction xs with
  | nil => rfl
  | cons x xs ih =>
    have : hexL (x :: xs) = [dig (x / 16), dig (x % 16)] ++ hexL xs := rfl
    rw [this, List.length_append, ih]
    simp
    omega
theorem digest_Hex.calls (t : ByteArray) (w : World) (hl : t.size ≤ 70000000000000) :
    Calls Tryz.prog 57 #[.string t] w fun e w' => e = .returned (.string (hexF t)) ∧ Below w.heap.size w w' := by
  have HL := Aside0.mk hl
  have h2 : IntKind.i64.wrap (2 * (t.size : Int)) = ((2 * t.size : Nat) : Int) := (i64_w _).trans ((IntWalk.wrap64_in _ (by omega)).trans (by omega))
  obtain ⟨c, hc⟩ : ∃ c : Nat, c = 2 * t.size := ⟨_, rfl⟩
  rw [← hc] at h2
  obtain ⟨i0, hi0, hzz⟩ := Option.map_eq_some_iff.1 info5
  simp only [Prod.mk.injEq] at hzz
  obtain ⟨hz0, hz1, hz2⟩ := hzz
  have hmk : ∀ W : World, w.heap.size ≤ W.heap.size → ∃ w', (Instr.makeSlice 95 (.int .i64 0) (.int .i64 (c : Int))).run Tryz.prog W = .ok (.slice (some ⟨W.heap.size, 0, none⟩) 0 c) w' ∧ w'.ownsRow w.heap.size 5 1 (.slice (some ⟨W.heap.size, 0, none⟩) 0 c) 0 [] ∧ W.grownBy w' none :=
    fun W hW => run_make_own (P := Tryz.prog) W w.heap.size 95 5 i0 (.int .u8 0) 1 Tryz.underlying95 hi0 hz0 hz1 .i64 .i64 c (by rw [hz2, hc]; omega) (by rw [hc]; simp only [maxLen]; omega) hW
  obtain ⟨w1, hrun, hown, hgr⟩ := hmk w (Nat.le_refl _)
  have R1 : Aside0 ((Kd.int .u8).R 5 w1 w.heap.size (fun _ => True) (.slice (some ⟨w.heap.size, 0, none⟩) 0 c) []) := ⟨Kd.R_of_own (h1 := fun _ => rfl) hown (fun _ _ => trivial)⟩
  have B1 : Aside0 (Below w.heap.size w w1) := ⟨(Below.refl _ _).grown hgr (Nat.le_refl _) (fun k hk => by cases hk)⟩
  clear hown hgr hmk hc
  go_enter Tryz.func57, Tryz.ntmps57
  go_wp2_with (fail)
  go_loopg [3, 11] (t.size + 1) (fun kq v3 v11 w' => ∃ n : Nat, v11 = .int .i64 (n : Int) ∧ Aside0 (n + kq = t.size + 1 ∧ n ≤ t.size) ∧ Aside0 ((Kd.int .u8).R 5 w' w.heap.size (fun _ => True) v3 (hexL ((bytesOf t).take n))) ∧ Aside0 (Below w.heap.size w w'))
  case atStart => exact ⟨0, rfl, ⟨by omega, by omega⟩, R1, B1⟩
  case round =>
    clear R1 B1 hrun
    obtain ⟨n, rfl, HN, R, B⟩ := hrel
    cases gk with
    | zero => have := HN.out; omega
    | succ k1 =>
      by_cases hn : n < t.size
      · have hlt : ((n : Int) < (t.size : Int)) = True := eq_true (by omega)
        have hb0 := str_at t n hn
        have hr := bt_range t n
        obtain ⟨b, yb⟩ : ∃ b : Int, b = bt t n := ⟨_, rfl⟩
        rw [← yb] at hb0 hr
        have hd1 := digits_at (b / 16) (by omega) (by omega)
        have hd2 := digits_at (b % 16) (by omega) (by omega)
        have ha := and15 b (by omega) (by omega)
        unfold digitsS at hd1 hd2
        have YB := Aside0.mk yb
        clear yb hr
        go_wp2_with (fail)
        refine start_ (n := 14) (S := fun _ => True) (ds := []) #[false, false, false, false, false, false, false, false, false, false, false, false, false, false] (by kernel_rfl) rfl rfl trivial (fun hHeld => ?_)
        refine pure_ (i := 0) (N := some 14) (v := ?_) (a' := ?_) #[true, false, false, false, false, false, false, false, false, false, false, false, false, false] rfl rfl (by kernel_rfl) (fun _ _ _ h => h) (Or.inl ⟨by rfl, ?_⟩) ?_ ?_
        rotate_left
        · intro w'
          go_simp
          with_reducible rfl
        rotate_left
        · simp only [Act.put, List.setIfInBounds_toArray, List.set_cons_zero, List.set_cons_succ]
          rfl
        refine pure_ (i := 1) (N := some 15) (v := ?_) (a' := ?_) #[true, true, false, false, false, false, false, false, false, false, false, false, false, false] rfl rfl (by kernel_rfl) (fun _ _ _ h => h) (Or.inl ⟨by rfl, ?_⟩) ?_ ?_
        rotate_left
        · intro w'
          go_simp
          with_reducible rfl
        rotate_left
        · simp only [Act.put, List.setIfInBounds_toArray, List.set_cons_zero, List.set_cons_succ]
          rfl
        refine pure_ (i := 2) (N := some 16) (v := ?_) (a' := ?_) #[true, true, true, false, false, false, false, false, false, false, false, false, false, false] rfl rfl (by kernel_rfl) (fun _ _ _ h => h) (Or.inl ⟨by rfl, ?_⟩) ?_ ?_
        rotate_left
        · intro w'
          go_simp
          with_reducible rfl
        rotate_left
        · simp only [Act.put, List.setIfInBounds_toArray, List.set_cons_zero, List.set_cons_succ]
          rfl
        refine pure_ (i := 3) (N := some 17) (v := ?_) (a' := ?_) #[true, true, true, true, false, false, false, false, false, false, false, false, false, false] rfl rfl (by kernel_rfl) (fun _ _ _ h => h) (Or.inl ⟨by rfl, ?_⟩) ?_ ?_
        rotate_left
        · intro w'
          go_simp
          with_reducible rfl
        rotate_left
        · simp only [Act.put, List.setIfInBounds_toArray, List.set_cons_zero, List.set_cons_succ]
          rfl
        refine pure_ (i := 4) (N := some 18) (v := ?_) (a' := ?_) #[true, true, true, true, true, false, false, false, false, false, false, false, false, false] rfl rfl (by kernel_rfl) (fun _ _ _ h => h) (Or.inl ⟨by rfl, ?_⟩) ?_ ?_
        rotate_left
        · intro w'
          go_simp
          with_reducible rfl
        rotate_left
        · simp only [Act.put, List.setIfInBounds_toArray, List.set_cons_zero, List.set_cons_succ]
          rfl
        refine pure_ (i := 5) (N := some 19) (v := ?_) (a' := ?_) #[true, true, true, true, true, true, false, false, false, false, false, false, false, false] rfl rfl (by kernel_rfl) (fun _ _ _ h => h) (Or.inl ⟨by rfl, ?_⟩) ?_ ?_
        rotate_left
        · intro w'
          go_simp
          with_reducible rfl
        rotate_left
        · simp only [Act.put, List.setIfInBounds_toArray, List.set_cons_zero, List.set_cons_succ]
          rfl
        refine pure_ (i := 6) (N := some 20) (v := ?_) (a' := ?_) #[true, true, true, true, true, true, true, false, false, false, false, false, false, false] rfl rfl (by kernel_rfl) (fun _ _ _ h => h) (Or.inl ⟨by rfl, ?_⟩) ?_ ?_
        rotate_left
        · intro w'
          go_simp
          with_reducible rfl
        rotate_left
        · simp only [Act.put, List.setIfInBounds_toArray, List.set_cons_zero, List.set_cons_succ]
          rfl
        refine pure_ (i := 7) (N := some 21) (v := ?_) (a' := ?_) #[true, true, true, true, true, true, true, true, false, false, false, false, false, false] rfl rfl (by kernel_rfl) (fun _ _ _ h => h) (Or.inl ⟨by rfl, ?_⟩) ?_ ?_
        rotate_left
        · intro w'
          go_simp
          with_reducible rfl
        rotate_left
        · simp only [Act.put, List.setIfInBounds_toArray, List.set_cons_zero, List.set_cons_succ]
          rfl
        refine pure_ (i := 8) (N := some 22) (v := ?_) (a' := ?_) #[true, true, true, true, true, true, true, true, true, false, false, false, false, false] rfl rfl (by kernel_rfl) (fun _ _ _ h => h) (Or.inl ⟨by rfl, ?_⟩) ?_ ?_
        rotate_left
        · intro w'
          go_simp
          with_reducible rfl
        rotate_left
        · simp only [Act.put, List.setIfInBounds_toArray, List.set_cons_zero, List.set_cons_succ]
          rfl
        refine pure_ (i := 9) (N := some 23) (v := ?_) (a' := ?_) #[true, true, true, true, true, true, true, true, true, true, false, false, false, false] rfl rfl (by kernel_rfl) (fun _ _ _ h => h) (Or.inl ⟨by rfl, ?_⟩) ?_ ?_
        rotate_left
        · intro w'
          go_simp
          with_reducible rfl
        rotate_left
        · simp only [Act.put, List.setIfInBounds_toArray, List.set_cons_zero, List.set_cons_succ]
          rfl
        refine pure_ (i := 10) (N := some 24) (v := ?_) (a' := ?_) #[true, true, true, true, true, true, true, true, true, true, true, false, false, false] rfl rfl (by kernel_rfl) (fun _ _ _ h => h) (Or.inl ⟨by rfl, ?_⟩) ?_ ?_
        rotate_left
        · intro w'
          go_simp
          with_reducible rfl
        rotate_left
        · simp only [Act.put, List.setIfInBounds_toArray, List.set_cons_zero, List.set_cons_succ]
          rfl
        refine one_ (i := 11) (N := some 25) #[true, true, true, true, true, true, true, true, true, true, true, true, false, false] rfl rfl (by kernel_rfl) (by decide) (fun K hK => ?_)
        refine value_ (v := .slice (some ⟨wr.drew.heap.size, 0, none⟩) 2 2) (w1 := wr.drew.alloc (.cells (([dig (b / 16), dig (b % 16)] : List Int).map (Value.int .u8)).toArray 5)) (by rfl) rfl (by first | (go_simp; done) | (go_simp; rfl)) ?_
        have hq4 : Aside0 ((wr.drew.alloc (.cells (([dig (b / 16), dig (b % 16)] : List Int).map (Value.int .u8)).toArray 5)).heap[wr.drew.heap.size]? = some (.cells (([dig (b / 16), dig (b % 16)] : List Int).map (Value.int .u8)).toArray 5 (0, 0))) := ⟨heap_alloc_new _ _⟩
        have hqR := Aside0.mk (Kd.R_alloc (Kd.R_drew R.out) (.cells (([dig (b / 16), dig (b % 16)] : List Int).map (Value.int .u8)).toArray 5))
        have hqB : Aside0 (Below w.heap.size w (wr.drew.alloc (.cells (([dig (b / 16), dig (b % 16)] : List Int).map (Value.int .u8)).toArray 5))) := ⟨below_alloc (below_drew1 B.out) _⟩
        generalize wr.drew.alloc (.cells (([dig (b / 16), dig (b % 16)] : List Int).map (Value.int .u8)).toArray 5) = w5 at hq4 hqR hqB ⊢
        generalize wr.drew.heap.size = gr at hq4 ⊢
        refine hK.out _ _ trivial (fun hHeld => ?_)
        clear hK K
        refine norm_ (a' := ?_) ?_ ?_
        rotate_left
        · show Act.put _ (some 25) _ = _
          simp only [Act.put, List.setIfInBounds_toArray, List.set_cons_zero, List.set_cons_succ]
          rfl
        refine one_ (i := 12) (N := some 26) #[true, true, true, true, true, true, true, true, true, true, true, true, true, false] rfl rfl (by kernel_rfl) (by decide) (fun K hK => ?_)
        refine app8_step w.heap.size (by rfl) (.tmp 14) (.tmp 25) rfl _ _ [dig (b / 16), dig (b % 16)] (some ⟨gr, 0, none⟩) 2 2 (fun _ => True) ?hs ?hx hqR.out (C_of_blk8 hq4.out (by simp)) (fun _ _ => trivial) hqB.out hqB.out.size (by rw [hexL_len, List.length_take, bytesOf_length]; have := HL.out; omega) ?_
        case hs => rfl
        case hx => rfl
        intro v1 w7 hR7 hB7 _ _
        have R7 := Aside0.mk hR7
        have B7 := Aside0.mk hB7
        clear hR7 hB7 hq4 hqR hqB
        refine hK.out _ _ trivial (fun hHeld => ?_)
        clear hK K
        refine norm_ (a' := ?_) ?_ ?_
        rotate_left
        · show Act.put _ (some 26) _ = _
          simp only [Act.put, List.setIfInBounds_toArray, List.set_cons_zero, List.set_cons_succ]
          rfl
        refine pure_ (i := 13) (N := some 3) (v := ?_) (a' := ?_) #[true, true, true, true, true, true, true, true, true, true, true, true, true, true] rfl rfl (by kernel_rfl) (fun _ _ _ h => h) (Or.inl ⟨by rfl, ?_⟩) ?_ ?_
        rotate_left
        · intro w'
          go_simp
          with_reducible rfl
        rotate_left
        · simp only [Act.put, List.setIfInBounds_toArray, List.set_cons_zero, List.set_cons_succ]
          rfl
        refine done_ (by kernel_rfl) ?_
        go_wp2
        go_roundg k1
        case measure => have := HN.out; omega
        case rel => exact ⟨n + 1, by first | rfl | simp, ⟨by have := HN.out; omega, by omega⟩, ⟨by rw [hexL_succ _ _ (by rw [bytesOf_length]; exact hn), bytesOf_bt t n hn, ← YB.out]; exact R7.out⟩, B7⟩
      · obtain rfl : n = t.size := by have := HN.out; omega
        have hlt : ((t.size : Int) < (t.size : Int)) = False := eq_false (by omega)
        have hconv := own_string (P := Tryz.prog) Tryz.underlying95 Tryz.underlying5 Tryz.underlying9 (Kd.own_of_R R.out)
        go_wp2
        go_ret
        refine ⟨?_, B.out⟩
        rw [List.take_of_length_le (by rw [bytesOf_length]; omega)]
        rfl
theorem hex_abc : hexF (sha ⟨#[97, 98, 99]⟩) = ⟨#[98, 97, 55, 56, 49, 54, 98, 102, 56, 102, 48, 49, 99, 102, 101, 97, 52, 49, 52, 49, 52, 48, 100, 101, 53, 100, 97, 101, 50, 50, 50, 51, 98, 48, 48, 51, 54, 49, 97, 51, 57, 54, 49, 55, 55, 97, 57, 99, 98, 52, 49, 48, 102, 102, 54, 49, 102, 50, 48, 48, 49, 53, 97, 100]⟩ := by kernel_rfl
theorem hex_two : hexF (sha ⟨#[97, 98, 99, 100, 98, 99, 100, 101, 99, 100, 101, 102, 100, 101, 102, 103, 101, 102, 103, 104, 102, 103, 104, 105, 103, 104, 105, 106, 104, 105, 106, 107, 105, 106, 107, 108, 106, 107, 108, 109, 107, 108, 109, 110, 108, 109, 110, 111, 109, 110, 111, 112, 110, 111, 112, 113]⟩) = ⟨#[50, 52, 56, 100, 54, 97, 54, 49, 100, 50, 48, 54, 51, 56, 98, 56, 101, 53, 99, 48, 50, 54, 57, 51, 48, 99, 51, 101, 54, 48, 51, 57, 97, 51, 51, 99, 101, 52, 53, 57, 54, 52, 102, 102, 50, 49, 54, 55, 102, 54, 101, 99, 101, 100, 100, 52, 49, 57, 100, 98, 48, 54, 99, 49]⟩ := by kernel_rfl
theorem size_abc : (sha ⟨#[97, 98, 99]⟩).size = 32 := by kernel_rfl
theorem size_two : (sha ⟨#[97, 98, 99, 100, 98, 99, 100, 101, 99, 100, 101, 102, 100, 101, 102, 103, 101, 102, 103, 104, 102, 103, 104, 105, 103, 104, 105, 106, 104, 105, 106, 107, 105, 106, 107, 108, 106, 107, 108, 109, 107, 108, 109, 110, 108, 109, 110, 111, 109, 110, 111, 112, 110, 111, 112, 113]⟩).size = 32 := by kernel_rfl
theorem padded_l1 (m : Nat) (X : Int) (hX : X = IntKind.u64.wrap ((m : Int) * 8)) (pre : List Int) (hp : pre.length ≤ 140737488355000) : ∀ (d j k : Nat), j + d = 8 → d < k → stowageref03_padded.l1 k (pre ++ be8 m j) X (56 - 8 * (j : Int)) = some (pre ++ be8 m 8)
  | 0, j, k, hj, hk => by
    obtain ⟨k, rfl⟩ : ∃ k', k = k' + 1 := ⟨k - 1, by omega⟩
    obtain rfl : j = 8 := by omega
    simp only [stowageref03_padded.l1]
    rw [if_neg (by omega)]
  | d + 1, j, k, hj, hk => by
    obtain ⟨k, rfl⟩ : ∃ k', k = k' + 1 := ⟨k - 1, by omega⟩
    have ih := padded_l1 m X hX pre hp d (j + 1) k (by omega) (by omega)
    simp only [stowageref03_padded.l1]
    have hw : IntKind.u64.wrap (56 - 8 * (j : Int)) = 56 - 8 * (j : Int) := IntWalk.u64_in _ (by omega)
    rw [if_pos (by omega), hw, if_pos (by omega), if_pos (by rw [List.length_append, be8_len]; omega)]
    rw [show wrap64 (56 - 8 * (j : Int) - 8) = 56 - 8 * ((j + 1 : Nat) : Int) by rw [IntWalk.wrap64_in _ (by omega)]; omega]
    rw [← ih, be8_succ, ← List.append_assoc]
    congr 3
    unfold shr byteAt
    rw [hX]
    have e : min (56 - 8 * (j : Int)).toNat IntKind.u64.bits = 8 * (7 - j) := by
      have : (56 - 8 * (j : Int)).toNat = 8 * (7 - j) := by omega
      rw [this]
      exact Nat.min_eq_left (by show 8 * (7 - j) ≤ 64; omega)
    rw [e]
theorem padded_l0 (a0 : ByteArray) (hs : a0.size ≤ 140737488351232) (bs : List Int) (hb : bs.length = a0.size) : ∀ (d z k : Nat), z + d = padZ bs.length → d + 9 < k → stowageref03_padded.l0 k a0 (bs ++ 128 :: List.replicate z 0) = some (bs ++ 128 :: List.replicate (padZ bs.length) 0 ++ be8 a0.size 8)
  | 0, z, k, hz, hk => by
    obtain ⟨k, rfl⟩ : ∃ k', k = k' + 1 := ⟨k - 1, by omega⟩
    obtain rfl : z = padZ bs.length := by omega
    have hl : (bs ++ 128 :: List.replicate (padZ bs.length) 0).length = bs.length + 1 + padZ bs.length := by simp; omega
    simp only [stowageref03_padded.l0]
    rw [if_pos (by rw [hl]; unfold padZ; omega)]
    have h := padded_l1 a0.size (IntKind.u64.wrap (IntKind.u64.wrap (a0.size : Int) * 8)) (by rw [IntWalk.u64_in (a0.size : Int) (by omega)]) (bs ++ 128 :: List.replicate (padZ bs.length) 0) (by rw [hl]; unfold padZ; omega) 8 0 k (by omega) (by omega)
    rw [show be8 (a0.size : Int) 0 = [] from rfl, List.append_nil] at h
    exact h
  | d + 1, z, k, hz, hk => by
    obtain ⟨k, rfl⟩ : ∃ k', k = k' + 1 := ⟨k - 1, by omega⟩
    have ih := padded_l0 a0 hs bs hb d (z + 1) k (by omega) (by omega)
    have hl : (bs ++ 128 :: List.replicate z 0).length = bs.length + 1 + z := by simp; omega
    simp only [stowageref03_padded.l0]
    rw [if_neg (by rw [hl]; unfold padZ at *; omega), if_pos (by rw [hl]; unfold padZ at *; omega)]
    rw [← ih, List.append_assoc, List.cons_append, ← List.replicate_succ']
theorem padded_eq (k : Nat) (hk : 80 < k) (t : ByteArray) (ht : t.size ≤ 140737488351232) : stowageref03_padded.f k t = some (bytesOf t ++ tailB (bytesOf t).length t.size) := by
  unfold stowageref03_padded.f
  rw [if_pos (by omega), Option.bind_some, if_pos (by rw [bytesOf_length]; omega)]
  have h := padded_l0 t ht (bytesOf t) (bytesOf_length t) (padZ (bytesOf t).length) 0 k (by omega) (by unfold padZ; omega)
  rw [show (List.replicate 0 (0 : Int)) = [] from rfl] at h
  rw [h]
  simp [tailB]
theorem refsum_eq (k : Nat) (hk : 130 < k) (t : ByteArray) (ht : t.size ≤ 140737488351232) : stowageref03_Sum.f k t = some (sha t) := by
  unfold stowageref03_Sum.f
  have hl : (bytesOf t ++ tailB (bytesOf t).length t.size).length = t.size + 1 + padZ t.size + 8 := by
    simp [tailB, be8_len, bytesOf_length]; omega
  rw [padded_eq k (by omega) t ht, Option.bind_some, if_pos ⟨hk, by rw [hl]; unfold padZ; omega, by rw [hl]; omega, by rw [hl]; unfold padZ; omega, tailB_range (bytes_in t)⟩]
  rfl
end Go.Proofs.YtdeakccaecphlaaGreatDoor.Q
