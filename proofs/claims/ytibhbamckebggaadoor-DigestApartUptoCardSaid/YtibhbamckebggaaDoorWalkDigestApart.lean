/- DigestApart answers true at every input of bulk at most 1048576: parts that are cut otherwise, or stand for another purpose, are other bytes that are digested. -/
import Derived.Test.YtibhbamckebggaaDoorDigits
import Derived.Test.YtibhbamckebggaaDoorQx3
import Derived.Test.YtibhbamckebggaaDoorQx4
import Derived.Test.YtibhbamckebggaaDoorQx5
import Derived.Test.YtibhbamckebggaaDoorStepEq
import Derived.Deep.RegionHeld3
import Derived.Deep.DrawnRows
import Derived.Deep.MidRow
import Derived.Lib.LaidTab
import Derived.Laws.Closers25b
namespace Go.Proofs.YtibhbamckebggaaDoor.Q
open Go.RowKit Go.Proofs.YtibhbamckebggaaDoorW.PrintWords Go.Proofs.YtibhbamckebggaaDoorW.PrintLast Go.Proofs.YtibhbamckebggaaDoorW.PrintMore
set_option linter.unusedVariables false
set_option linter.unusedSimpArgs false
set_option maxHeartbeats 1000000
set_option maxRecDepth 10000
theorem digest_Tagged.calls (p : Int) (hp : 0 ≤ p ∧ p < 256) (A : Option Addr) (c : Nat) (l : List ByteArray) (w : World) (hr : Kd.C Kd.string w A l.length l) (hG : InG w) (hl : ∀ s ∈ l, s.size ≤ 140737488355200) :
    Calls Tryd.prog 15 #[.int .u8 p, .slice A l.length c] w fun e w' => e = .returned (.string (strOfNums (shaOf (tagB p l) (wr64 (tagB p l).length)))) ∧ Below w.heap.size w w' := by
  have HG := Aside0.mk hG
  have H0 := Aside0.mk hG.pos
  have HL := Aside0.mk hl
  have HP := Aside0.mk hp
  have HR := Aside0.mk hr
  clear hG hl hp hr
  go_enter Tryd.func15, Tryd.ntmps15
  go_wp2_with (fail)
  refine (T_New w w (Below.refl _ _)).mono ?_
  rintro e w1 ⟨g, rfl, hT, hB, hb⟩
  have T1 := Aside0.mk hT
  have B1 := Aside0.mk hB
  clear hT hB hb
  go_wp2_with ((with_reducible refine gate_dst (N := 13) rfl ?_); refine Halt.out ?_)
  refine ⟨?_⟩
  refine Kd.event_run (v := .string (strOfNums [p])) (w1 := w1.alloc (.cells (([p] : List Int).map (Value.int .u8)).toArray 5)) rfl (run_convLit (gl := w1.heap.size) (n := 1) (ys := [p]) _ (.tmp 12) ?a1 ?a2 rfl (by decide) (heap_alloc_new w1 _)) ?_
  case a1 => rfl
  case a2 => rfl
  have T2 : Aside0 (Took (w1.alloc (.cells (([p] : List Int).map (Value.int .u8)).toArray 5)) w.heap.size g []) := ⟨T1.out.below (below_alloc (Below.refl _ _) _)⟩
  have B2 : Aside0 (Below w.heap.size w (w1.alloc (.cells (([p] : List Int).map (Value.int .u8)).toArray 5))) := ⟨below_alloc B1.out _⟩
  clear T1 B1
  generalize w1.alloc (.cells (([p] : List Int).map (Value.int .u8)).toArray 5) = w2 at T2 B2 ⊢
  go_wp2_with (fail)
  refine (T_Write T2.out (strOfNums [p]) B2.out (HG.out.below B2.out) H0.out (by rw [strOfNums_size]; simp)).mono ?_
  rintro e w3 ⟨rfl, hT, hB⟩
  have T3 : Aside0 (Took w3 w.heap.size g (tagB p (l.take 0))) := ⟨by
    rw [bytes_str (fun x hx => by simp at hx; subst hx; exact HP.out)] at hT
    exact hT⟩
  have B3 := Aside0.mk hB
  clear hT hB T2 B2
  go_wp2_with (fail)
  go_loopg [17] (l.length + 1) (fun kq v17 w' => ∃ n : Nat, v17 = .int .i64 (n : Int) ∧ Aside0 (n + kq = l.length + 1 ∧ n ≤ l.length) ∧ Aside0 (Took w' w.heap.size g (tagB p (l.take n))) ∧ Aside0 (Below w.heap.size w w'))
  case atStart => exact ⟨0, rfl, ⟨by omega, by omega⟩, T3, B3⟩
  case round =>
    clear T3 B3
    obtain ⟨n, rfl, HN, T, B⟩ := hrel
    cases gk with
    | zero => have := HN.out; omega
    | succ k1 =>
      by_cases hn : n < l.length
      · have hlt : ((n : Int) < (l.length : Int)) = True := eq_true (by omega)
        obtain ⟨ad, ea, hcell0⟩ := Kd.at_string HR.out (n : Int) (by omega) (by omega)
        subst ea
        have hcell := below_cell hcell0 B.out
        rw [Int.toNat_natCast] at hcell
        obtain ⟨s, ys⟩ : ∃ s : ByteArray, s = l.getD n ByteArray.empty := ⟨_, rfl⟩
        rw [show rdOf ByteArray.empty l (n : Int) = s by rw [ys]; rfl] at hcell
        have YS := Aside0.mk ys
        have HS : Aside0 (s.size ≤ 140737488355200) := ⟨by rw [ys, List.getD_eq_getElem?_getD, List.getElem?_eq_getElem hn]; exact HL.out _ (List.getElem_mem hn)⟩
        have ht : ((s.size : Int) % 18446744073709551616) = s.size := by have := HS.out; omega
        clear hcell0 ys
        go_wp2_with ((with_reducible refine gate_dst (N := 49) rfl ?_); refine Halt.out ?_)
        refine ⟨?_⟩
        obtain ⟨bs, hbs⟩ : ∃ bs : List Int, bs = [(s.size : Int) / 72057594037927936, (s.size : Int) / 281474976710656 % 256, (s.size : Int) / 1099511627776 % 256, (s.size : Int) / 4294967296 % 256, (s.size : Int) / 16777216 % 256, (s.size : Int) / 65536 % 256, (s.size : Int) / 256 % 256, (s.size : Int) % 256] := ⟨_, rfl⟩
        have HBS : Aside0 (bs = le8 s.size 8) := ⟨by rw [hbs, le8_eq]; have := HS.out; congr 1; omega⟩
        have hbl : bs.length = 8 := by rw [hbs]; rfl
        have hbm : #[Value.int .u8 ((s.size : Int) / 72057594037927936), .int .u8 ((s.size : Int) / 281474976710656 % 256), .int .u8 ((s.size : Int) / 1099511627776 % 256), .int .u8 ((s.size : Int) / 4294967296 % 256), .int .u8 ((s.size : Int) / 16777216 % 256), .int .u8 ((s.size : Int) / 65536 % 256), .int .u8 ((s.size : Int) / 256 % 256), .int .u8 ((s.size : Int) % 256)] = (bs.map (Value.int .u8)).toArray := by rw [hbs]; rfl
        rw [hbm]
        clear hbs hbm
        refine Kd.event_run (v := .string (strOfNums bs)) (w1 := wr.alloc (.cells (bs.map (Value.int .u8)).toArray 5)) rfl (run_convLit (gl := wr.heap.size) (n := 8) (ys := bs) _ (.tmp 48) ?a3 ?a4 hbl (by decide) (heap_alloc_new wr _)) ?_
        case a3 => rfl
        case a4 => rfl
        have T5 : Aside0 (Took (wr.alloc (.cells (bs.map (Value.int .u8)).toArray 5)) w.heap.size g (tagB p (l.take n))) := ⟨T.out.below (below_alloc (Below.refl _ _) _)⟩
        have B5 : Aside0 (Below w.heap.size w (wr.alloc (.cells (bs.map (Value.int .u8)).toArray 5))) := ⟨below_alloc B.out _⟩
        clear T B hcell
        generalize wr.alloc (.cells (bs.map (Value.int .u8)).toArray 5) = w5 at T5 B5 ⊢
        go_wp2_with (fail)
        refine (T_Write T5.out (strOfNums bs) B5.out (HG.out.below B5.out) H0.out (by rw [strOfNums_size, hbl]; decide)).mono ?_
        rintro e w6 ⟨rfl, hT, hB⟩
        have T6 : Aside0 (Took w6 w.heap.size g (tagB p (l.take n) ++ le8 s.size 8)) := ⟨by rw [bytes_str (by rw [HBS.out]; exact le8_in _ _), HBS.out] at hT; exact hT⟩
        have B6 := Aside0.mk hB
        clear hT hB T5 B5
        go_wp2_with (fail)
        refine (T_Write T6.out s B6.out (HG.out.below B6.out) H0.out HS.out).mono ?_
        rintro e w7 ⟨rfl, hT, hB⟩
        have T7 : Aside0 (Took w7 w.heap.size g (tagB p (l.take (n + 1)))) := ⟨by rw [tagB_take p l n hn, ← YS.out]; exact hT⟩
        have B7 := Aside0.mk hB
        clear hT hB T6 B6
        go_wp2
        go_roundg k1
        case measure => have := HN.out; omega
        case rel => exact ⟨n + 1, by have hm := Kd.C_max HR.out; rw [IntWalk.wrap64_in _ (by omega)]; rfl, ⟨by have := HN.out; omega, by omega⟩, T7, B7⟩
      · obtain rfl : n = l.length := by have := HN.out; omega
        have hlt : ((l.length : Int) < (l.length : Int)) = False := eq_false (by omega)
        rw [List.take_length] at T
        go_wp2_with (fail)
        refine (T_Sum T.out (HG.out.below B.out)).mono ?_
        rintro e w4 ⟨rfl, hb4⟩
        have B4 : Aside0 (Below w.heap.size w w4) := ⟨below_step B.out hb4⟩
        clear hb4
        go_wp2
        go_ret
        exact ⟨rfl, B4.out⟩
theorem refTagged_l1 (l : List ByteArray) (x6 : Nat) (h6 : x6 < l.length) (hl2 : l.length ≤ 1048576) (m : Int) (pre : List Int) (hp : pre.length + (l.getD x6 ByteArray.empty).size ≤ 4000000000) : ∀ (d j k : Nat), j + d = 8 → d < k → stowageref03_Tagged.l1 k l (pre ++ le8 m j) x6 m (56 - 8 * (j : Int)) = stowageref03_Tagged.l0 (k - d - 1) l (pre ++ le8 m 8 ++ bytesOf (l.getD x6 ByteArray.empty)) ((x6 + 1 : Nat) : Int)
  | 0, j, k, hj, hk => by
    obtain ⟨k, rfl⟩ : ∃ k', k = k' + 1 := ⟨k - 1, by omega⟩
    obtain rfl : j = 8 := by omega
    have hrd : rdOf ByteArray.empty l (x6 : Int) = l.getD x6 ByteArray.empty := rfl
    simp only [stowageref03_Tagged.l1]
    rw [if_neg (by omega), if_pos (by omega), if_pos (by omega), hrd, if_pos (by rw [List.length_append, le8_len]; omega)]
    rw [IntWalk.wrap64_in _ (by omega)]
    congr 1
  | d + 1, j, k, hj, hk => by
    obtain ⟨k, rfl⟩ : ∃ k', k = k' + 1 := ⟨k - 1, by omega⟩
    have ih := refTagged_l1 l x6 h6 hl2 m pre hp d (j + 1) k (by omega) (by omega)
    simp only [stowageref03_Tagged.l1]
    have hw : IntKind.u64.wrap (56 - 8 * (j : Int)) = 56 - 8 * (j : Int) := IntWalk.u64_in _ (by omega)
    rw [if_pos (by omega), hw, if_pos (by omega), if_pos (by rw [List.length_append, le8_len]; omega)]
    rw [show wrap64 (56 - 8 * (j : Int) - 8) = 56 - 8 * ((j + 1 : Nat) : Int) by rw [IntWalk.wrap64_in _ (by omega)]; omega]
    rw [show k + 1 - (d + 1) - 1 = k - d - 1 by omega, ← ih, le8_succ, ← List.append_assoc]
    congr 3
    unfold shr
    have e : min (56 - 8 * (j : Int)).toNat IntKind.u64.bits = 8 * (7 - j) := by
      have : (56 - 8 * (j : Int)).toNat = 8 * (7 - j) := by omega
      rw [this]
      exact Nat.min_eq_left (by show 8 * (7 - j) ≤ 64; omega)
    rw [e]
def lenS (l : List ByteArray) : Nat := (l.map (fun s => s.size + 8)).sum
theorem tagB_len (p : Int) (l : List ByteArray) : (tagB p l).length = 1 + lenS l := by
  unfold tagB lenS
  rw [List.length_cons, List.length_flatMap]
  have : ∀ s : ByteArray, (partB s).length = s.size + 8 := fun s => by simp [partB, le8_len, bytesOf_length]; omega
  simp only [this]
  omega
theorem lenS_take (l : List ByteArray) (n : Nat) (h : n < l.length) : lenS (l.take n) + (l.getD n ByteArray.empty).size + 8 ≤ lenS l := by
  have e : l = l.take n ++ l[n] :: l.drop (n + 1) := by rw [← List.drop_eq_getElem_cons h, List.take_append_drop]
  have hl : lenS l = lenS (l.take n) + (l[n].size + 8 + lenS (l.drop (n + 1))) := by
    unfold lenS
    conv => lhs; rw [e]
    rw [List.map_append, List.sum_append, List.map_cons, List.sum_cons]
  rw [List.getD_eq_getElem?_getD, List.getElem?_eq_getElem h]
  simp only [Option.getD_some]
  omega
theorem tagB_in {p : Int} (hp : 0 ≤ p ∧ p < 256) (l : List ByteArray) : InB (tagB p l) := fun x h => by
  rcases List.mem_cons.1 h with rfl | h
  · exact hp
  · obtain ⟨s, _, hs⟩ := List.mem_flatMap.1 h
    rcases List.mem_append.1 hs with hs | hs
    · exact le8_in _ _ x hs
    · exact bytes_in s x hs
theorem refTagged_l0 (p : Int) (hp : 0 ≤ p ∧ p < 256) (l : List ByteArray) (hl : l.length ≤ 1048576) (hs : lenS l ≤ 3000000000) : ∀ (d n k : Nat), n + d = l.length → 10 * d + 200 < k → stowageref03_Tagged.l0 k l (tagB p (l.take n)) (n : Int) = some (sha (strOfNums (tagB p l)))
  | 0, n, k, hn, hk => by
    obtain ⟨k, rfl⟩ : ∃ k', k = k' + 1 := ⟨k - 1, by omega⟩
    obtain rfl : n = l.length := by omega
    simp only [stowageref03_Tagged.l0]
    rw [if_neg (by omega), List.take_length, refsum_eq k (by omega) _ (by rw [strOfNums_size, tagB_len]; omega)]
    rfl
  | d + 1, n, k, hn, hk => by
    obtain ⟨k, rfl⟩ : ∃ k', k = k' + 1 := ⟨k - 1, by omega⟩
    have hlt : n < l.length := by omega
    have ht := lenS_take l n hlt
    have ih := refTagged_l0 p hp l hl hs d (n + 1) (k - 8 - 1) (by omega) (by omega)
    have h1 := refTagged_l1 l n hlt hl ((l.getD n ByteArray.empty).size : Int) (tagB p (l.take n)) (by rw [tagB_len]; omega) 8 0 k (by omega) (by omega)
    simp only [stowageref03_Tagged.l0]
    rw [if_pos (by omega), if_pos (by omega)]
    have hw : IntKind.u64.wrap (((rdOf ByteArray.empty l (n : Int)).size : Int)) = ((l.getD n ByteArray.empty).size : Int) := by
      rw [show rdOf ByteArray.empty l (n : Int) = l.getD n ByteArray.empty from rfl]
      exact IntWalk.u64_in _ (by omega)
    rw [hw]
    rw [show le8 ((l.getD n ByteArray.empty).size : Int) 0 = [] from rfl, List.append_nil] at h1
    rw [← ih, tagB_take p l n hlt]
    exact h1
theorem refTagged_eq (p : Int) (hp : 0 ≤ p ∧ p < 256) (l : List ByteArray) (hl : l.length ≤ 1048576) (hs : lenS l ≤ 3000000000) (k : Nat) (hk : 10 * l.length + 200 < k) : stowageref03_Tagged.f k p l = some (sha (strOfNums (tagB p l))) := by
  have h := refTagged_l0 p hp l hl hs l.length 0 k (by omega) hk
  exact h
theorem sha_tag (p : Int) (hp : 0 ≤ p ∧ p < 256) (l : List ByteArray) (hs : lenS l ≤ 3000000000) : strOfNums (shaOf (tagB p l) (wr64 (tagB p l).length)) = sha (strOfNums (tagB p l)) := by
  unfold sha
  rw [bytes_str (tagB_in hp l), strOfNums_size, wr64_id _ (by rw [tagB_len]; omega)]
theorem told_l1 (l : List ByteArray) (x6 : Nat) (h6 : x6 < l.length) (hl2 : l.length ≤ 1048576) (m : Int) (pre : List Int) (hp : pre.length + (l.getD x6 ByteArray.empty).size ≤ 4000000000) : ∀ (d j k : Nat), j + d = 8 → d < k → stowagelaw03_told.l1 k l (pre ++ le8 m j) x6 m (56 - 8 * (j : Int)) = stowagelaw03_told.l0 (k - d - 1) l (pre ++ le8 m 8 ++ bytesOf (l.getD x6 ByteArray.empty)) ((x6 + 1 : Nat) : Int)
  | 0, j, k, hj, hk => by
    obtain ⟨k, rfl⟩ : ∃ k', k = k' + 1 := ⟨k - 1, by omega⟩
    obtain rfl : j = 8 := by omega
    have hrd : rdOf ByteArray.empty l (x6 : Int) = l.getD x6 ByteArray.empty := rfl
    simp only [stowagelaw03_told.l1]
    rw [if_neg (by omega), if_pos (by omega), if_pos (by omega), hrd, if_pos (by rw [List.length_append, le8_len]; omega)]
    rw [IntWalk.wrap64_in _ (by omega)]
    congr 1
  | d + 1, j, k, hj, hk => by
    obtain ⟨k, rfl⟩ : ∃ k', k = k' + 1 := ⟨k - 1, by omega⟩
    have ih := told_l1 l x6 h6 hl2 m pre hp d (j + 1) k (by omega) (by omega)
    simp only [stowagelaw03_told.l1]
    have hw : IntKind.u64.wrap (56 - 8 * (j : Int)) = 56 - 8 * (j : Int) := IntWalk.u64_in _ (by omega)
    rw [if_pos (by omega), hw, if_pos (by omega), if_pos (by rw [List.length_append, le8_len]; omega)]
    rw [show wrap64 (56 - 8 * (j : Int) - 8) = 56 - 8 * ((j + 1 : Nat) : Int) by rw [IntWalk.wrap64_in _ (by omega)]; omega]
    rw [show k + 1 - (d + 1) - 1 = k - d - 1 by omega, ← ih, le8_succ, ← List.append_assoc]
    congr 3
    unfold shr
    have e : min (56 - 8 * (j : Int)).toNat IntKind.u64.bits = 8 * (7 - j) := by
      have : (56 - 8 * (j : Int)).toNat = 8 * (7 - j) := by omega
      rw [this]
      exact Nat.min_eq_left (by show 8 * (7 - j) ≤ 64; omega)
    rw [e]
theorem told_l0 (p : Int) (l : List ByteArray) (hl : l.length ≤ 1048576) (hs : lenS l ≤ 3000000000) : ∀ (d n k : Nat), n + d = l.length → 10 * d + 1 < k → stowagelaw03_told.l0 k l (tagB p (l.take n)) (n : Int) = some (strOfNums (tagB p l))
  | 0, n, k, hn, hk => by
    obtain ⟨k, rfl⟩ : ∃ k', k = k' + 1 := ⟨k - 1, by omega⟩
    obtain rfl : n = l.length := by omega
    simp only [stowagelaw03_told.l0]
    rw [if_neg (by omega), List.take_length]
  | d + 1, n, k, hn, hk => by
    obtain ⟨k, rfl⟩ : ∃ k', k = k' + 1 := ⟨k - 1, by omega⟩
    have hlt : n < l.length := by omega
    have ht := lenS_take l n hlt
    have ih := told_l0 p l hl hs d (n + 1) (k - 8 - 1) (by omega) (by omega)
    have h1 := told_l1 l n hlt hl ((l.getD n ByteArray.empty).size : Int) (tagB p (l.take n)) (by rw [tagB_len]; omega) 8 0 k (by omega) (by omega)
    simp only [stowagelaw03_told.l0]
    rw [if_pos (by omega), if_pos (by omega)]
    have hw : IntKind.u64.wrap (((rdOf ByteArray.empty l (n : Int)).size : Int)) = ((l.getD n ByteArray.empty).size : Int) := by
      rw [show rdOf ByteArray.empty l (n : Int) = l.getD n ByteArray.empty from rfl]
      exact IntWalk.u64_in _ (by omega)
    rw [hw]
    rw [show le8 ((l.getD n ByteArray.empty).size : Int) 0 = [] from rfl, List.append_nil] at h1
    rw [← ih, tagB_take p l n hlt]
    exact h1
theorem told_eq (p : Int) (l : List ByteArray) (hl : l.length ≤ 1048576) (hs : lenS l ≤ 3000000000) (k : Nat) (hk : 10 * l.length + 1 < k) : stowagelaw03_told.f k p l = some (strOfNums (tagB p l)) := told_l0 p l hl hs l.length 0 k (by omega) hk
theorem le8_inj (n m : Nat) (hn : n < 18446744073709551616) (hm : m < 18446744073709551616) (h : le8 n 8 = le8 m 8) : n = m := by
  rw [le8_eq, le8_eq] at h
  simp only [List.cons.injEq, and_true] at h
  omega
theorem parts_inj : ∀ (l m : List ByteArray), (∀ s ∈ l, s.size < 18446744073709551616) → (∀ s ∈ m, s.size < 18446744073709551616) → l.flatMap partB = m.flatMap partB → l = m
  | [], [], _, _, _ => rfl
  | [], b :: m, _, _, h => by
    have := congrArg List.length h
    simp [partB, le8_len] at this
    try omega
  | a :: l, [], _, _, h => by
    have := congrArg List.length h
    simp [partB, le8_len] at this
    try omega
  | a :: l, b :: m, hl, hm, h => by
    rw [List.flatMap_cons, List.flatMap_cons] at h
    unfold partB at h
    rw [List.append_assoc, List.append_assoc] at h
    have h1 := List.append_inj_left h (by rw [le8_len, le8_len])
    have h2 := List.append_inj_right h (by rw [le8_len, le8_len])
    have hs := le8_inj a.size b.size (hl a (by simp)) (hm b (by simp)) h1
    have h3 := List.append_inj_left h2 (by rw [bytesOf_length, bytesOf_length, hs])
    have h4 := List.append_inj_right h2 (by rw [bytesOf_length, bytesOf_length, hs])
    have he : a = b := by rw [← str_bytes a, ← str_bytes b, h3]
    rw [he, parts_inj l m (fun s hs => hl s (by simp [hs])) (fun s hs => hm s (by simp [hs])) h4]
theorem tag_inj {p q : Int} (hp : 0 ≤ p ∧ p < 256) (hq : 0 ≤ q ∧ q < 256) (l m : List ByteArray) (hl : ∀ s ∈ l, s.size < 18446744073709551616) (hm : ∀ s ∈ m, s.size < 18446744073709551616) : strOfNums (tagB p l) = strOfNums (tagB q m) ↔ p = q ∧ l = m := by
  constructor
  · intro h
    have h2 := congrArg bytesOf h
    rw [bytes_str (tagB_in hp l), bytes_str (tagB_in hq m)] at h2
    unfold tagB at h2
    injection h2 with h3 h4
    exact ⟨h3, parts_inj l m hl hm h4⟩
  · rintro ⟨rfl, rfl⟩
    rfl
theorem toList_inj {s t : ByteArray} (h : s.toList = t.toList) : s = t := by
  have h2 : s.data.toList = t.data.toList := by rw [← Go.ByteArray.toList_eq s, ← Go.ByteArray.toList_eq t]; exact h
  exact ByteArray.ext (Array.ext' h2)
theorem lenS_le (l : List ByteArray) : lenS l ≤ 8 * (l.map fun y => y.size + 1).sum ∧ l.length ≤ (l.map fun y => y.size + 1).sum := by
  induction l with
  | nil => exact ⟨Nat.le_refl _, Nat.le_refl _⟩
  | cons s l ih =>
    have h : lenS (s :: l) = s.size + 8 + lenS l := by simp [lenS]
    rw [h, List.map_cons, List.sum_cons, List.length_cons]
    omega
set_option maxHeartbeats 20000000 in
theorem stowagelaw03_DigestApart.calls (p q : Int) (hp : 0 ≤ p ∧ p < 256) (hq : 0 ≤ q ∧ q < 256) (A : Option Addr) (c : Nat) (l : List ByteArray) (A' : Option Addr) (c' : Nat) (m : List ByteArray) (w : World)
    (hrl : Kd.C Kd.string w A l.length l) (hcl : l.length ≤ c) (hrm : Kd.C Kd.string w A' m.length m) (hcm : m.length ≤ c') (hG : InG w) (hl1 : l.length ≤ 1048576) (hl2 : lenS l ≤ 3000000000) (hm1 : m.length ≤ 1048576) (hm2 : lenS m ≤ 3000000000)
    (hls : ∀ s ∈ l, s.size ≤ 140737488351232) (hms : ∀ s ∈ m, s.size ≤ 140737488351232) :
    Calls Tryd.prog 6 #[.agg #[.int .u8 p, .int .u8 q], .slice A l.length c, .slice A' m.length c'] w fun e w' => e = .returned (.bool true) ∧ Below w.heap.size w w' := by
  have hu34 := Tryd.underlying34
  have HG := Aside0.mk hG
  have HP := Aside0.mk hp
  have HQ := Aside0.mk hq
  have HRL := Aside0.mk hrl
  have HCL := Aside0.mk hcl
  have HRM := Aside0.mk hrm
  have HCM := Aside0.mk hcm
  have HL1 := Aside0.mk hl1
  have HL2 := Aside0.mk hl2
  have HM1 := Aside0.mk hm1
  have HM2 := Aside0.mk hm2
  have HLS := Aside0.mk hls
  have HMS := Aside0.mk hms
  clear hG hp hq hrl hcl hrm hcm hl1 hl2 hm1 hm2 hls hms
  go_enter Tryd.func6, Tryd.ntmps6
  go_wp2_with (first
    | ((with_reducible refine gate_dst (N := 3) rfl ?_); refine box_event rfl (N := 3) rfl (cs := #[.int .u8 p, .int .u8 q]) (t := 34) ?hr ?_; (case hr => first | (go_simp; done) | (go_simp; rfl)); intro g3 hg w1 hk hB
       have P1 := Aside0.mk hk
       have B1 := Aside0.mk hB
       clear hk hB hg))
  have cp := (blk_cell P1.out 0).trans rfl
  have cq := (blk_cell P1.out 1).trans rfl
  refine start_ (n := 10) (S := fun w' => w'.cell? ⟨g3, 0, none⟩ = some (.int .u8 p) ∧ w'.cell? ⟨g3, 1, none⟩ = some (.int .u8 q)) (ds := []) #[false, false, false, false, false, false, false, false, false, false] (by kernel_rfl) rfl rfl ⟨cp, cq⟩ (fun hHeld => ?_)
  refine pure_ (i := 0) (N := some 11) (v := ?_) (a' := ?_) #[true, false, false, false, false, false, false, false, false, false] rfl rfl (by kernel_rfl) (fun _ _ _ h => h) (Or.inl ⟨by rfl, ?_⟩) ?_ ?_
  rotate_left
  · intro w'
    go_simp
    with_reducible rfl
  rotate_left
  · simp only [Act.put, List.setIfInBounds_toArray, List.set_cons_zero, List.set_cons_succ]
    rfl
  refine take_ (i := 1) (N := some 12) (v := ?_) (a' := ?_) #[true, true, false, false, false, false, false, false, false, false] rfl rfl (by kernel_rfl) (fun _ _ _ h => h) (Or.inl ⟨by rfl, ?_⟩) (by first | exact hHeld | assumption) ?_ ?_
  rotate_left
  · rintro w' ⟨s0, s1⟩
    go_simp
    with_reducible rfl
  rotate_left
  · simp only [Act.put, List.setIfInBounds_toArray, List.set_cons_zero, List.set_cons_succ]
    rfl
  refine pure_ (i := 2) (N := some 13) (v := ?_) (a' := ?_) #[true, true, true, false, false, false, false, false, false, false] rfl rfl (by kernel_rfl) (fun _ _ _ h => h) (Or.inl ⟨by rfl, ?_⟩) ?_ ?_
  rotate_left
  · intro w'
    go_simp
    with_reducible rfl
  rotate_left
  · simp only [Act.put, List.setIfInBounds_toArray, List.set_cons_zero, List.set_cons_succ]
    rfl
  refine pure_ (i := 4) (N := some 15) (v := ?_) (a' := ?_) #[true, true, true, false, true, false, false, false, false, false] rfl rfl (by kernel_rfl) (fun _ _ _ h => h) (Or.inl ⟨by rfl, ?_⟩) ?_ ?_
  rotate_left
  · intro w'
    go_simp
    with_reducible rfl
  rotate_left
  · simp only [Act.put, List.setIfInBounds_toArray, List.set_cons_zero, List.set_cons_succ]
    rfl
  refine take_ (i := 5) (N := some 16) (v := ?_) (a' := ?_) #[true, true, true, false, true, true, false, false, false, false] rfl rfl (by kernel_rfl) (fun _ _ _ h => h) (Or.inl ⟨by rfl, ?_⟩) (by first | exact hHeld | assumption) ?_ ?_
  rotate_left
  · rintro w' ⟨s0, s1⟩
    go_simp
    with_reducible rfl
  rotate_left
  · simp only [Act.put, List.setIfInBounds_toArray, List.set_cons_zero, List.set_cons_succ]
    rfl
  refine pure_ (i := 6) (N := some 17) (v := ?_) (a' := ?_) #[true, true, true, false, true, true, true, false, false, false] rfl rfl (by kernel_rfl) (fun _ _ _ h => h) (Or.inl ⟨by rfl, ?_⟩) ?_ ?_
  rotate_left
  · intro w'
    go_simp
    with_reducible rfl
  rotate_left
  · simp only [Act.put, List.setIfInBounds_toArray, List.set_cons_zero, List.set_cons_succ]
    rfl
  refine one_ (i := 3) (N := some 14) #[true, true, true, true, true, true, true, false, false, false] rfl rfl (by kernel_rfl) (by decide) (fun K hK => ?_)
  refine call_ 17 #[.int .u8 p, .slice A l.length c] (by rfl) rfl (by first | (go_simp; done) | (go_simp; rfl)) ?_
  refine (stowagelaw03_told.calls (10 * l.length + 2) p A c l (strOfNums (tagB p l)) _ (Kd.C_below HRL.out (below_drew1 B1.out)) HCL.out (told_eq p l HL1.out HL2.out _ (by omega))).mono ?_
  rintro e w2 ⟨rfl, hb⟩
  have B2 : Aside0 (Below w.heap.size w w2) := ⟨below_step (below_drew1 B1.out) hb⟩
  have P2 : Aside0 (w2.heap[g3]? = some (.cells #[.int .u8 p, .int .u8 q] 34 (0, 0))) := ⟨blk_below (w := w1.drew) P1.out hb⟩
  clear hb
  refine ⟨_, rfl, hK.out _ _ ⟨(blk_cell P2.out 0).trans rfl, (blk_cell P2.out 1).trans rfl⟩ (fun hHeld => ?_)⟩
  clear hK K B1 P1
  refine norm_ (a' := ?_) ?_ ?_
  rotate_left
  · show Act.put _ (some 14) _ = _
    simp only [Act.put, List.setIfInBounds_toArray, List.set_cons_zero, List.set_cons_succ]
    rfl
  refine one_ (i := 7) (N := some 18) #[true, true, true, true, true, true, true, true, false, false] rfl rfl (by kernel_rfl) (by decide) (fun K hK => ?_)
  refine call_ 17 #[.int .u8 q, .slice A' m.length c'] (by rfl) rfl (by first | (go_simp; done) | (go_simp; rfl)) ?_
  refine (stowagelaw03_told.calls (10 * m.length + 2) q A' c' m (strOfNums (tagB q m)) _ (Kd.C_below HRM.out B2.out) HCM.out (told_eq q m HM1.out HM2.out _ (by omega))).mono ?_
  rintro e w3 ⟨rfl, hb⟩
  have B3 : Aside0 (Below w.heap.size w w3) := ⟨below_step B2.out hb⟩
  have P3 : Aside0 (w3.heap[g3]? = some (.cells #[.int .u8 p, .int .u8 q] 34 (0, 0))) := ⟨blk_below P2.out hb⟩
  clear hb
  refine ⟨_, rfl, hK.out _ _ ⟨(blk_cell P3.out 0).trans rfl, (blk_cell P3.out 1).trans rfl⟩ (fun hHeld => ?_)⟩
  clear hK K B2 P2
  refine norm_ (a' := ?_) ?_ ?_
  rotate_left
  · show Act.put _ (some 18) _ = _
    simp only [Act.put, List.setIfInBounds_toArray, List.set_cons_zero, List.set_cons_succ]
    rfl
  refine pure_ (i := 8) (N := some 7) (v := ?_) (a' := ?_) #[true, true, true, true, true, true, true, true, true, false] rfl rfl (by kernel_rfl) (fun _ _ _ h => h) (Or.inl ⟨by rfl, ?_⟩) ?_ ?_
  rotate_left
  · intro w'
    go_simp
    with_reducible rfl
  rotate_left
  · simp only [Act.put, List.setIfInBounds_toArray, List.set_cons_zero, List.set_cons_succ]
    rfl
  refine pure_ (i := 9) (N := some 8) (v := ?_) (a' := ?_) #[true, true, true, true, true, true, true, true, true, true] rfl rfl (by kernel_rfl) (fun _ _ _ h => h) (Or.inl ⟨by rfl, ?_⟩) ?_ ?_
  rotate_left
  · intro w'
    go_simp
    with_reducible rfl
  rotate_left
  · simp only [Act.put, List.setIfInBounds_toArray, List.set_cons_zero, List.set_cons_succ]
    rfl
  refine done_ (by kernel_rfl) ?_
  clear hHeld
  obtain ⟨X, hX⟩ : ∃ X : ByteArray, X = strOfNums (tagB p l) := ⟨_, rfl⟩
  obtain ⟨Y, hY⟩ : ∃ X : ByteArray, X = strOfNums (tagB q m) := ⟨_, rfl⟩
  rw [← hX, ← hY]
  have HX := Aside0.mk hX
  have HY := Aside0.mk hY
  clear hX hY cp cq
  have cp := (blk_cell P3.out 0).trans rfl
  have cq := (blk_cell P3.out 1).trans rfl
  by_cases hpq : p = q
  · have q0 : (p == q) = true := beq_iff_eq.mpr hpq
    have HPQ := Aside0.mk hpq
    clear hpq
    by_cases hll : l.length = m.length
    · have q1 : ((l.length : Int) == (m.length : Int)) = true := beq_iff_eq.mpr (by omega)
      have HLL := Aside0.mk hll
      clear hll
      go_wp2_with (fail)
      go_loopg [9, 10] (l.length + 1) (fun kq v9 v10 w' => ∃ (n : Nat) (sb : Bool), v10 = .int .i64 (n : Int) ∧ v9 = .bool sb ∧ Aside0 (n + kq = l.length + 1 ∧ n ≤ l.length) ∧ Aside0 (sb = true ↔ (p = q ∧ l.length = m.length ∧ l.take n = m.take n)) ∧ Aside0 (w'.heap[g3]? = some (.cells #[.int .u8 p, .int .u8 q] 34 (0, 0))) ∧ Aside0 (Below w.heap.size w w'))
      case atStart => exact ⟨0, true, rfl, rfl, ⟨by omega, by omega⟩, ⟨fun _ => ⟨HPQ.out, HLL.out, rfl⟩, fun _ => rfl⟩, P3, B3⟩
      case round =>
        clear P3 B3 cp cq
        obtain ⟨n, sb, rfl, rfl, HN, HSB, P, B⟩ := hrel
        cases gk with
        | zero => have := HN.out; omega
        | succ k1 =>
          by_cases hgo : n < l.length ∧ sb = true
          · obtain ⟨hn, rfl⟩ := hgo
            have hlt : ((n : Int) < (l.length : Int)) = True := eq_true (by omega)
            have hsb := HSB.out.1 rfl
            obtain ⟨ad, ea, h0⟩ := Kd.at_string HRL.out (n : Int) (by omega) (by omega)
            obtain ⟨bd, eb, h1⟩ := Kd.at_string HRM.out (n : Int) (by omega) (by omega)
            subst ea eb
            have c0 := below_cell h0 B.out
            have c1 := below_cell h1 B.out
            rw [Int.toNat_natCast] at c0 c1
            have hlm : ((n : Int) < (m.length : Int)) = True := eq_true (by have := hsb.2.1; omega)
            obtain ⟨s, ys⟩ : ∃ s : ByteArray, s = rdOf ByteArray.empty l (n : Int) := ⟨_, rfl⟩
            obtain ⟨s', ys'⟩ : ∃ s : ByteArray, s = rdOf ByteArray.empty m (n : Int) := ⟨_, rfl⟩
            rw [← ys] at c0
            rw [← ys'] at c1
            have HE : Aside0 (s = s' ↔ l.take (n + 1) = m.take (n + 1)) := ⟨by
              have e1 : l.take (n + 1) = l.take n ++ [s] := by
                rw [List.take_add_one, List.getElem?_eq_getElem hn, ys]
                simp [rdOf, List.getElem?_eq_getElem hn]
              have e2 : m.take (n + 1) = m.take n ++ [s'] := by
                rw [List.take_add_one, List.getElem?_eq_getElem (by omega), ys']
                simp [rdOf, List.getElem?_eq_getElem (show n < m.length by omega)]
              rw [e1, e2, hsb.2.2]
              simp⟩
            have HSQ := Aside0.mk hsb
            clear h0 h1 ys ys' hsb
            by_cases hss : s = s'
            · subst hss
              go_wp2_with (fail)
              go_quiet (fail)
              go_wp2
              go_roundg k1
              case measure => have := HN.out; omega
              case rel => exact ⟨n + 1, true, by have hm := Kd.C_max HRL.out; rw [IntWalk.wrap64_in _ (by omega)]; rfl, by first | rfl | simp, ⟨by have := HN.out; omega, by omega⟩, ⟨fun _ => ⟨HSQ.out.1, HSQ.out.2.1, HE.out.1 (by first | rfl | trivial)⟩, fun _ => rfl⟩, P, ⟨pw_below_drewN B.out _⟩⟩
            · have hs2 : (s.toList == s'.toList) = false := beq_eq_false_iff_ne.mpr (fun h => hss (toList_inj h))
              have hs3 : (s = s') = False := eq_false hss
              have HSS := Aside0.mk hss
              clear hss
              go_wp2_with (fail)
              go_quiet (fail)
              go_wp2
              go_roundg k1
              case measure => have := HN.out; omega
              case rel => exact ⟨n + 1, false, by have hm := Kd.C_max HRL.out; rw [IntWalk.wrap64_in _ (by omega)]; rfl, by first | rfl | simp, ⟨by have := HN.out; omega, by omega⟩, ⟨fun h => by simp at h, fun h => absurd (HE.out.2 h.2.2) HSS.out⟩, P, ⟨pw_below_drewN B.out _⟩⟩
          · have HSB2 : Aside0 (sb = true ↔ p = q ∧ l = m) := ⟨by
              constructor
              · intro h
                have h1 := HSB.out.1 h
                have hn : n = l.length := by have := HN.out; have : ¬ n < l.length := fun h2 => hgo ⟨h2, h⟩; omega
                have h2 := h1.2.2
                rw [hn, List.take_length, h1.2.1, List.take_length] at h2
                exact ⟨h1.1, h2⟩
              · rintro ⟨rfl, rfl⟩
                exact HSB.out.2 ⟨rfl, rfl, rfl⟩⟩
            have hcond : ((decide ((n : Int) < (l.length : Int)) && sb) = false) := by
              cases sb
              · simp
              · have : ¬ n < l.length := fun h2 => hgo ⟨h2, rfl⟩
                simp
                omega
            have HXY : Aside0 (X = Y ↔ sb = true) := ⟨by
              rw [HX.out, HY.out, HSB2.out]
              exact tag_inj HP.out HQ.out l m (fun s hs => by have := HLS.out s hs; omega) (fun s hs => by have := HMS.out s hs; omega)⟩
            have cp := (blk_cell P.out 0).trans rfl
            have cq := (blk_cell P.out 1).trans rfl
            clear hgo
            by_cases hn : n < l.length
            · have hlt : ((n : Int) < (l.length : Int)) = True := eq_true (by omega)
              obtain rfl : sb = false := by simpa [hn] using hcond
              clear hcond
              have hxy : (X.toList == Y.toList) = false := beq_eq_false_iff_ne.mpr (fun h => Bool.noConfusion (HXY.out.1 (toList_inj h)))
              clear HSB HSB2 HXY
              go_upto_region 7 with (fail)
              have Bx0 : Aside0 (Below w.heap.size w wr.drew) := ⟨below_drew1 B.out⟩
              have Px0 : Aside0 (wr.drew.heap[g3]? = some (.cells #[.int .u8 p, .int .u8 q] 34 (0, 0))) := ⟨P.out⟩
              refine start_ (n := 26) (S := fun w' => w'.cell? ⟨g3, 0, none⟩ = some (.int .u8 p) ∧ w'.cell? ⟨g3, 1, none⟩ = some (.int .u8 q)) (ds := []) #[false, false, false, false, false, false, false, false, false, false, false, false, false, false, false, false, false, false, false, false, false, false, false, false, false, false] (by kernel_rfl) rfl rfl ⟨cp, cq⟩ (fun hHeld => ?_)
              refine one_ (i := 0) (N := some 49) #[true, false, false, false, false, false, false, false, false, false, false, false, false, false, false, false, false, false, false, false, false, false, false, false, false, false] rfl rfl (by kernel_rfl) (by decide) (fun K hK => ?_)
              refine call_ 9 #[] (by rfl) rfl (by first | (go_simp; done) | (go_simp; rfl)) ?_
              refine (stowagelaw03_awake.calls _ (HG.out.below Bx0.out)).mono ?_
              rintro e x1 ⟨rfl, hb⟩
              have Bx1 : Aside0 (Below w.heap.size w x1) := ⟨below_step Bx0.out hb⟩
              have Px1 : Aside0 (x1.heap[g3]? = some (.cells #[.int .u8 p, .int .u8 q] 34 (0, 0))) := ⟨blk_below Px0.out hb⟩
              clear hb
              refine ⟨_, rfl, hK.out _ _ ⟨(blk_cell Px1.out 0).trans rfl, (blk_cell Px1.out 1).trans rfl⟩ (fun hHeld => ?_)⟩
              clear hK K Bx0 Px0
              refine norm_ (a' := ?_) ?_ ?_
              rotate_left
              · show Act.put _ (some 49) _ = _
                simp only [Act.put, List.setIfInBounds_toArray, List.set_cons_zero, List.set_cons_succ]
                rfl
              refine pure_ (i := 1) (N := some 50) (v := ?_) (a' := ?_) #[true, true, false, false, false, false, false, false, false, false, false, false, false, false, false, false, false, false, false, false, false, false, false, false, false, false] rfl rfl (by kernel_rfl) (fun _ _ _ h => h) (Or.inl ⟨by rfl, ?_⟩) ?_ ?_
              rotate_left
              · intro w'
                go_simp
                with_reducible rfl
              rotate_left
              · simp only [Act.put, List.setIfInBounds_toArray, List.set_cons_zero, List.set_cons_succ]
                rfl
              refine pure_ (i := 2) (N := some 51) (v := ?_) (a' := ?_) #[true, true, true, false, false, false, false, false, false, false, false, false, false, false, false, false, false, false, false, false, false, false, false, false, false, false] rfl rfl (by kernel_rfl) (fun _ _ _ h => h) (Or.inl ⟨by rfl, ?_⟩) ?_ ?_
              rotate_left
              · intro w'
                go_simp
                with_reducible rfl
              rotate_left
              · simp only [Act.put, List.setIfInBounds_toArray, List.set_cons_zero, List.set_cons_succ]
                rfl
              refine pure_ (i := 3) (N := some 52) (v := ?_) (a' := ?_) #[true, true, true, true, false, false, false, false, false, false, false, false, false, false, false, false, false, false, false, false, false, false, false, false, false, false] rfl rfl (by kernel_rfl) (fun _ _ _ h => h) (Or.inl ⟨by rfl, ?_⟩) ?_ ?_
              rotate_left
              · intro w'
                go_simp
                with_reducible rfl
              rotate_left
              · simp only [Act.put, List.setIfInBounds_toArray, List.set_cons_zero, List.set_cons_succ]
                rfl
              refine pure_ (i := 4) (N := some 53) (v := ?_) (a' := ?_) #[true, true, true, true, true, false, false, false, false, false, false, false, false, false, false, false, false, false, false, false, false, false, false, false, false, false] rfl rfl (by kernel_rfl) (fun _ _ _ h => h) (Or.inl ⟨by rfl, ?_⟩) ?_ ?_
              rotate_left
              · intro w'
                go_simp
                with_reducible rfl
              rotate_left
              · simp only [Act.put, List.setIfInBounds_toArray, List.set_cons_zero, List.set_cons_succ]
                rfl
              refine pure_ (i := 5) (N := some 54) (v := ?_) (a' := ?_) #[true, true, true, true, true, true, false, false, false, false, false, false, false, false, false, false, false, false, false, false, false, false, false, false, false, false] rfl rfl (by kernel_rfl) (fun _ _ _ h => h) (Or.inl ⟨by rfl, ?_⟩) ?_ ?_
              rotate_left
              · intro w'
                go_simp
                with_reducible rfl
              rotate_left
              · simp only [Act.put, List.setIfInBounds_toArray, List.set_cons_zero, List.set_cons_succ]
                rfl
              refine pure_ (i := 6) (N := some 55) (v := ?_) (a' := ?_) #[true, true, true, true, true, true, true, false, false, false, false, false, false, false, false, false, false, false, false, false, false, false, false, false, false, false] rfl rfl (by kernel_rfl) (fun _ _ _ h => h) (Or.inl ⟨by rfl, ?_⟩) ?_ ?_
              rotate_left
              · intro w'
                go_simp
                with_reducible rfl
              rotate_left
              · simp only [Act.put, List.setIfInBounds_toArray, List.set_cons_zero, List.set_cons_succ]
                rfl
              refine pure_ (i := 7) (N := some 56) (v := ?_) (a' := ?_) #[true, true, true, true, true, true, true, true, false, false, false, false, false, false, false, false, false, false, false, false, false, false, false, false, false, false] rfl rfl (by kernel_rfl) (fun _ _ _ h => h) (Or.inl ⟨by rfl, ?_⟩) ?_ ?_
              rotate_left
              · intro w'
                go_simp
                with_reducible rfl
              rotate_left
              · simp only [Act.put, List.setIfInBounds_toArray, List.set_cons_zero, List.set_cons_succ]
                rfl
              refine pure_ (i := 8) (N := some 57) (v := ?_) (a' := ?_) #[true, true, true, true, true, true, true, true, true, false, false, false, false, false, false, false, false, false, false, false, false, false, false, false, false, false] rfl rfl (by kernel_rfl) (fun _ _ _ h => h) (Or.inl ⟨by rfl, ?_⟩) ?_ ?_
              rotate_left
              · intro w'
                go_simp
                with_reducible rfl
              rotate_left
              · simp only [Act.put, List.setIfInBounds_toArray, List.set_cons_zero, List.set_cons_succ]
                rfl
              refine pure_ (i := 9) (N := some 58) (v := ?_) (a' := ?_) #[true, true, true, true, true, true, true, true, true, true, false, false, false, false, false, false, false, false, false, false, false, false, false, false, false, false] rfl rfl (by kernel_rfl) (fun _ _ _ h => h) (Or.inl ⟨by rfl, ?_⟩) ?_ ?_
              rotate_left
              · intro w'
                go_simp
                with_reducible rfl
              rotate_left
              · simp only [Act.put, List.setIfInBounds_toArray, List.set_cons_zero, List.set_cons_succ]
                rfl
              refine take_ (i := 10) (N := some 59) (v := ?_) (a' := ?_) #[true, true, true, true, true, true, true, true, true, true, true, false, false, false, false, false, false, false, false, false, false, false, false, false, false, false] rfl rfl (by kernel_rfl) (fun _ _ _ h => h) (Or.inl ⟨by rfl, ?_⟩) (by first | exact hHeld | assumption) ?_ ?_
              rotate_left
              · rintro w' ⟨s0, s1⟩
                go_simp
                with_reducible rfl
              rotate_left
              · simp only [Act.put, List.setIfInBounds_toArray, List.set_cons_zero, List.set_cons_succ]
                rfl
              refine pure_ (i := 11) (N := some 60) (v := ?_) (a' := ?_) #[true, true, true, true, true, true, true, true, true, true, true, true, false, false, false, false, false, false, false, false, false, false, false, false, false, false] rfl rfl (by kernel_rfl) (fun _ _ _ h => h) (Or.inl ⟨by rfl, ?_⟩) ?_ ?_
              rotate_left
              · intro w'
                go_simp
                with_reducible rfl
              rotate_left
              · simp only [Act.put, List.setIfInBounds_toArray, List.set_cons_zero, List.set_cons_succ]
                rfl
              refine pure_ (i := 13) (N := some 62) (v := ?_) (a' := ?_) #[true, true, true, true, true, true, true, true, true, true, true, true, false, true, false, false, false, false, false, false, false, false, false, false, false, false] rfl rfl (by kernel_rfl) (fun _ _ _ h => h) (Or.inl ⟨by rfl, ?_⟩) ?_ ?_
              rotate_left
              · intro w'
                go_simp
                with_reducible rfl
              rotate_left
              · simp only [Act.put, List.setIfInBounds_toArray, List.set_cons_zero, List.set_cons_succ]
                rfl
              refine take_ (i := 14) (N := some 63) (v := ?_) (a' := ?_) #[true, true, true, true, true, true, true, true, true, true, true, true, false, true, true, false, false, false, false, false, false, false, false, false, false, false] rfl rfl (by kernel_rfl) (fun _ _ _ h => h) (Or.inl ⟨by rfl, ?_⟩) (by first | exact hHeld | assumption) ?_ ?_
              rotate_left
              · rintro w' ⟨s0, s1⟩
                go_simp
                with_reducible rfl
              rotate_left
              · simp only [Act.put, List.setIfInBounds_toArray, List.set_cons_zero, List.set_cons_succ]
                rfl
              refine pure_ (i := 15) (N := some 64) (v := ?_) (a' := ?_) #[true, true, true, true, true, true, true, true, true, true, true, true, false, true, true, true, false, false, false, false, false, false, false, false, false, false] rfl rfl (by kernel_rfl) (fun _ _ _ h => h) (Or.inl ⟨by rfl, ?_⟩) ?_ ?_
              rotate_left
              · intro w'
                go_simp
                with_reducible rfl
              rotate_left
              · simp only [Act.put, List.setIfInBounds_toArray, List.set_cons_zero, List.set_cons_succ]
                rfl
              refine pure_ (i := 18) (N := some 67) (v := ?_) (a' := ?_) #[true, true, true, true, true, true, true, true, true, true, true, true, false, true, true, true, false, false, true, false, false, false, false, false, false, false] rfl rfl (by kernel_rfl) (fun _ _ _ h => h) (Or.inl ⟨by rfl, ?_⟩) ?_ ?_
              rotate_left
              · intro w'
                go_simp
                with_reducible rfl
              rotate_left
              · simp only [Act.put, List.setIfInBounds_toArray, List.set_cons_zero, List.set_cons_succ]
                rfl
              refine pure_ (i := 20) (N := some 69) (v := ?_) (a' := ?_) #[true, true, true, true, true, true, true, true, true, true, true, true, false, true, true, true, false, false, true, false, true, false, false, false, false, false] rfl rfl (by kernel_rfl) (fun _ _ _ h => h) (Or.inl ⟨by rfl, ?_⟩) ?_ ?_
              rotate_left
              · intro w'
                go_simp
                with_reducible rfl
              rotate_left
              · simp only [Act.put, List.setIfInBounds_toArray, List.set_cons_zero, List.set_cons_succ]
                rfl
              refine one_ (i := 12) (N := some 61) #[true, true, true, true, true, true, true, true, true, true, true, true, true, true, true, true, false, false, true, false, true, false, false, false, false, false] rfl rfl (by kernel_rfl) (by decide) (fun K hK => ?_)
              refine call_ 15 #[.int .u8 p, .slice A l.length c] (by rfl) rfl (by first | (go_simp; done) | (go_simp; rfl)) ?_
              refine (digest_Tagged.calls p HP.out A c l _ (Kd.C_below HRL.out Bx1.out) (HG.out.below Bx1.out) (fun s hs => by have := HLS.out s hs; omega)).mono ?_
              rintro e x2 ⟨rfl, hb⟩
              rw [sha_tag p HP.out l HL2.out, ← HX.out]
              have Bx2 : Aside0 (Below w.heap.size w x2) := ⟨below_step Bx1.out hb⟩
              have Px2 : Aside0 (x2.heap[g3]? = some (.cells #[.int .u8 p, .int .u8 q] 34 (0, 0))) := ⟨blk_below Px1.out hb⟩
              clear hb
              refine ⟨_, rfl, hK.out _ _ ⟨(blk_cell Px2.out 0).trans rfl, (blk_cell Px2.out 1).trans rfl⟩ (fun hHeld => ?_)⟩
              clear hK K Bx1 Px1
              refine norm_ (a' := ?_) ?_ ?_
              rotate_left
              · show Act.put _ (some 61) _ = _
                simp only [Act.put, List.setIfInBounds_toArray, List.set_cons_zero, List.set_cons_succ]
                rfl
              refine one_ (i := 16) (N := some 65) #[true, true, true, true, true, true, true, true, true, true, true, true, true, true, true, true, true, false, true, false, true, false, false, false, false, false] rfl rfl (by kernel_rfl) (by decide) (fun K hK => ?_)
              refine call_ 15 #[.int .u8 q, .slice A' m.length c'] (by rfl) rfl (by first | (go_simp; done) | (go_simp; rfl)) ?_
              refine (digest_Tagged.calls q HQ.out A' c' m _ (Kd.C_below HRM.out Bx2.out) (HG.out.below Bx2.out) (fun s hs => by have := HMS.out s hs; omega)).mono ?_
              rintro e x3 ⟨rfl, hb⟩
              rw [sha_tag q HQ.out m HM2.out, ← HY.out]
              have Bx3 : Aside0 (Below w.heap.size w x3) := ⟨below_step Bx2.out hb⟩
              have Px3 : Aside0 (x3.heap[g3]? = some (.cells #[.int .u8 p, .int .u8 q] 34 (0, 0))) := ⟨blk_below Px2.out hb⟩
              clear hb
              refine ⟨_, rfl, hK.out _ _ ⟨(blk_cell Px3.out 0).trans rfl, (blk_cell Px3.out 1).trans rfl⟩ (fun hHeld => ?_)⟩
              clear hK K Bx2 Px2
              refine norm_ (a' := ?_) ?_ ?_
              rotate_left
              · show Act.put _ (some 65) _ = _
                simp only [Act.put, List.setIfInBounds_toArray, List.set_cons_zero, List.set_cons_succ]
                rfl
              refine pure_ (i := 17) (N := some 66) (v := ?_) (a' := ?_) #[true, true, true, true, true, true, true, true, true, true, true, true, true, true, true, true, true, true, true, false, true, false, false, false, false, false] rfl rfl (by kernel_rfl) (fun _ _ _ h => h) (Or.inl ⟨by rfl, ?_⟩) ?_ ?_
              rotate_left
              · intro w'
                go_simp
                with_reducible rfl
              rotate_left
              · simp only [Act.put, List.setIfInBounds_toArray, List.set_cons_zero, List.set_cons_succ]
                rfl
              refine one_ (i := 19) (N := some 68) #[true, true, true, true, true, true, true, true, true, true, true, true, true, true, true, true, true, true, true, true, true, false, false, false, false, false] rfl rfl (by kernel_rfl) (by decide) (fun K hK => ?_)
              refine call_ 10 #[.string X] (by rfl) rfl (by first | (go_simp; done) | (go_simp; rfl)) ?_
              refine (digest_Sum.calls X _ (HG.out.below Bx3.out) (by rw [HX.out, strOfNums_size, tagB_len]; have := HL2.out; omega)).mono ?_
              rintro e x4 ⟨rfl, hb⟩
              have Bx4 : Aside0 (Below w.heap.size w x4) := ⟨below_step Bx3.out hb⟩
              have Px4 : Aside0 (x4.heap[g3]? = some (.cells #[.int .u8 p, .int .u8 q] 34 (0, 0))) := ⟨blk_below Px3.out hb⟩
              clear hb
              refine ⟨_, rfl, hK.out _ _ ⟨(blk_cell Px4.out 0).trans rfl, (blk_cell Px4.out 1).trans rfl⟩ (fun hHeld => ?_)⟩
              clear hK K Bx3 Px3
              refine norm_ (a' := ?_) ?_ ?_
              rotate_left
              · show Act.put _ (some 68) _ = _
                simp only [Act.put, List.setIfInBounds_toArray, List.set_cons_zero, List.set_cons_succ]
                rfl
              refine one_ (i := 21) (N := some 70) #[true, true, true, true, true, true, true, true, true, true, true, true, true, true, true, true, true, true, true, true, true, true, false, false, false, false] rfl rfl (by kernel_rfl) (by decide) (fun K hK => ?_)
              refine call_ 10 #[.string Y] (by rfl) rfl (by first | (go_simp; done) | (go_simp; rfl)) ?_
              refine (digest_Sum.calls Y _ (HG.out.below Bx4.out) (by rw [HY.out, strOfNums_size, tagB_len]; have := HM2.out; omega)).mono ?_
              rintro e x5 ⟨rfl, hb⟩
              have Bx5 : Aside0 (Below w.heap.size w x5) := ⟨below_step Bx4.out hb⟩
              have Px5 : Aside0 (x5.heap[g3]? = some (.cells #[.int .u8 p, .int .u8 q] 34 (0, 0))) := ⟨blk_below Px4.out hb⟩
              clear hb
              refine ⟨_, rfl, hK.out _ _ ⟨(blk_cell Px5.out 0).trans rfl, (blk_cell Px5.out 1).trans rfl⟩ (fun hHeld => ?_)⟩
              clear hK K Bx4 Px4
              refine norm_ (a' := ?_) ?_ ?_
              rotate_left
              · show Act.put _ (some 70) _ = _
                simp only [Act.put, List.setIfInBounds_toArray, List.set_cons_zero, List.set_cons_succ]
                rfl
              refine pure_ (i := 22) (N := some 71) (v := ?_) (a' := ?_) #[true, true, true, true, true, true, true, true, true, true, true, true, true, true, true, true, true, true, true, true, true, true, true, false, false, false] rfl rfl (by kernel_rfl) (fun _ _ _ h => h) (Or.inl ⟨by rfl, ?_⟩) ?_ ?_
              rotate_left
              · intro w'
                go_simp
                with_reducible rfl
              rotate_left
              · simp only [Act.put, List.setIfInBounds_toArray, List.set_cons_zero, List.set_cons_succ]
                rfl
              refine pure_ (i := 23) (N := some 72) (v := ?_) (a' := ?_) #[true, true, true, true, true, true, true, true, true, true, true, true, true, true, true, true, true, true, true, true, true, true, true, true, false, false] rfl rfl (by kernel_rfl) (fun _ _ _ h => h) (Or.inl ⟨by rfl, ?_⟩) ?_ ?_
              rotate_left
              · intro w'
                go_simp
                with_reducible rfl
              rotate_left
              · simp only [Act.put, List.setIfInBounds_toArray, List.set_cons_zero, List.set_cons_succ]
                rfl
              refine pure_ (i := 24) (N := some 73) (v := ?_) (a' := ?_) #[true, true, true, true, true, true, true, true, true, true, true, true, true, true, true, true, true, true, true, true, true, true, true, true, true, false] rfl rfl (by kernel_rfl) (fun _ _ _ h => h) (Or.inl ⟨by rfl, ?_⟩) ?_ ?_
              rotate_left
              · intro w'
                go_simp
                with_reducible rfl
              rotate_left
              · simp only [Act.put, List.setIfInBounds_toArray, List.set_cons_zero, List.set_cons_succ]
                rfl
              refine pure_ (i := 25) (N := some 6) (v := ?_) (a' := ?_) #[true, true, true, true, true, true, true, true, true, true, true, true, true, true, true, true, true, true, true, true, true, true, true, true, true, true] rfl rfl (by kernel_rfl) (fun _ _ _ h => h) (Or.inl ⟨by rfl, ?_⟩) ?_ ?_
              rotate_left
              · intro w'
                go_simp
                with_reducible rfl
              rotate_left
              · simp only [Act.put, List.setIfInBounds_toArray, List.set_cons_zero, List.set_cons_succ]
                rfl
              refine done_ (by kernel_rfl) ?_
              go_wp2
              go_ret
              exact ⟨by first | rfl | simp, Bx5.out⟩
            · have hlt : ((n : Int) < (l.length : Int)) = False := eq_false (by omega)
              clear hcond
              have hxy : (X.toList == Y.toList) = sb := by
                cases sb
                · exact beq_eq_false_iff_ne.mpr (fun h => Bool.noConfusion (HXY.out.1 (toList_inj h)))
                · exact beq_iff_eq.mpr (by rw [HXY.out.2 rfl])
              clear HSB HSB2 HXY
              go_upto_region 7 with (fail)
              have Bx0 : Aside0 (Below w.heap.size w wr.drew) := ⟨below_drew1 B.out⟩
              have Px0 : Aside0 (wr.drew.heap[g3]? = some (.cells #[.int .u8 p, .int .u8 q] 34 (0, 0))) := ⟨P.out⟩
              refine start_ (n := 26) (S := fun w' => w'.cell? ⟨g3, 0, none⟩ = some (.int .u8 p) ∧ w'.cell? ⟨g3, 1, none⟩ = some (.int .u8 q)) (ds := []) #[false, false, false, false, false, false, false, false, false, false, false, false, false, false, false, false, false, false, false, false, false, false, false, false, false, false] (by kernel_rfl) rfl rfl ⟨cp, cq⟩ (fun hHeld => ?_)
              refine one_ (i := 0) (N := some 49) #[true, false, false, false, false, false, false, false, false, false, false, false, false, false, false, false, false, false, false, false, false, false, false, false, false, false] rfl rfl (by kernel_rfl) (by decide) (fun K hK => ?_)
              refine call_ 9 #[] (by rfl) rfl (by first | (go_simp; done) | (go_simp; rfl)) ?_
              refine (stowagelaw03_awake.calls _ (HG.out.below Bx0.out)).mono ?_
              rintro e x1 ⟨rfl, hb⟩
              have Bx1 : Aside0 (Below w.heap.size w x1) := ⟨below_step Bx0.out hb⟩
              have Px1 : Aside0 (x1.heap[g3]? = some (.cells #[.int .u8 p, .int .u8 q] 34 (0, 0))) := ⟨blk_below Px0.out hb⟩
              clear hb
              refine ⟨_, rfl, hK.out _ _ ⟨(blk_cell Px1.out 0).trans rfl, (blk_cell Px1.out 1).trans rfl⟩ (fun hHeld => ?_)⟩
              clear hK K Bx0 Px0
              refine norm_ (a' := ?_) ?_ ?_
              rotate_left
              · show Act.put _ (some 49) _ = _
                simp only [Act.put, List.setIfInBounds_toArray, List.set_cons_zero, List.set_cons_succ]
                rfl
              refine pure_ (i := 1) (N := some 50) (v := ?_) (a' := ?_) #[true, true, false, false, false, false, false, false, false, false, false, false, false, false, false, false, false, false, false, false, false, false, false, false, false, false] rfl rfl (by kernel_rfl) (fun _ _ _ h => h) (Or.inl ⟨by rfl, ?_⟩) ?_ ?_
              rotate_left
              · intro w'
                go_simp
                with_reducible rfl
              rotate_left
              · simp only [Act.put, List.setIfInBounds_toArray, List.set_cons_zero, List.set_cons_succ]
                rfl
              refine pure_ (i := 2) (N := some 51) (v := ?_) (a' := ?_) #[true, true, true, false, false, false, false, false, false, false, false, false, false, false, false, false, false, false, false, false, false, false, false, false, false, false] rfl rfl (by kernel_rfl) (fun _ _ _ h => h) (Or.inl ⟨by rfl, ?_⟩) ?_ ?_
              rotate_left
              · intro w'
                go_simp
                with_reducible rfl
              rotate_left
              · simp only [Act.put, List.setIfInBounds_toArray, List.set_cons_zero, List.set_cons_succ]
                rfl
              refine pure_ (i := 3) (N := some 52) (v := ?_) (a' := ?_) #[true, true, true, true, false, false, false, false, false, false, false, false, false, false, false, false, false, false, false, false, false, false, false, false, false, false] rfl rfl (by kernel_rfl) (fun _ _ _ h => h) (Or.inl ⟨by rfl, ?_⟩) ?_ ?_
              rotate_left
              · intro w'
                go_simp
                with_reducible rfl
              rotate_left
              · simp only [Act.put, List.setIfInBounds_toArray, List.set_cons_zero, List.set_cons_succ]
                rfl
              refine pure_ (i := 4) (N := some 53) (v := ?_) (a' := ?_) #[true, true, true, true, true, false, false, false, false, false, false, false, false, false, false, false, false, false, false, false, false, false, false, false, false, false] rfl rfl (by kernel_rfl) (fun _ _ _ h => h) (Or.inl ⟨by rfl, ?_⟩) ?_ ?_
              rotate_left
              · intro w'
                go_simp
                with_reducible rfl
              rotate_left
              · simp only [Act.put, List.setIfInBounds_toArray, List.set_cons_zero, List.set_cons_succ]
                rfl
              refine pure_ (i := 5) (N := some 54) (v := ?_) (a' := ?_) #[true, true, true, true, true, true, false, false, false, false, false, false, false, false, false, false, false, false, false, false, false, false, false, false, false, false] rfl rfl (by kernel_rfl) (fun _ _ _ h => h) (Or.inl ⟨by rfl, ?_⟩) ?_ ?_
              rotate_left
              · intro w'
                go_simp
                with_reducible rfl
              rotate_left
              · simp only [Act.put, List.setIfInBounds_toArray, List.set_cons_zero, List.set_cons_succ]
                rfl
              refine pure_ (i := 6) (N := some 55) (v := ?_) (a' := ?_) #[true, true, true, true, true, true, true, false, false, false, false, false, false, false, false, false, false, false, false, false, false, false, false, false, false, false] rfl rfl (by kernel_rfl) (fun _ _ _ h => h) (Or.inl ⟨by rfl, ?_⟩) ?_ ?_
              rotate_left
              · intro w'
                go_simp
                with_reducible rfl
              rotate_left
              · simp only [Act.put, List.setIfInBounds_toArray, List.set_cons_zero, List.set_cons_succ]
                rfl
              refine pure_ (i := 7) (N := some 56) (v := ?_) (a' := ?_) #[true, true, true, true, true, true, true, true, false, false, false, false, false, false, false, false, false, false, false, false, false, false, false, false, false, false] rfl rfl (by kernel_rfl) (fun _ _ _ h => h) (Or.inl ⟨by rfl, ?_⟩) ?_ ?_
              rotate_left
              · intro w'
                go_simp
                with_reducible rfl
              rotate_left
              · simp only [Act.put, List.setIfInBounds_toArray, List.set_cons_zero, List.set_cons_succ]
                rfl
              refine pure_ (i := 8) (N := some 57) (v := ?_) (a' := ?_) #[true, true, true, true, true, true, true, true, true, false, false, false, false, false, false, false, false, false, false, false, false, false, false, false, false, false] rfl rfl (by kernel_rfl) (fun _ _ _ h => h) (Or.inl ⟨by rfl, ?_⟩) ?_ ?_
              rotate_left
              · intro w'
                go_simp
                with_reducible rfl
              rotate_left
              · simp only [Act.put, List.setIfInBounds_toArray, List.set_cons_zero, List.set_cons_succ]
                rfl
              refine pure_ (i := 9) (N := some 58) (v := ?_) (a' := ?_) #[true, true, true, true, true, true, true, true, true, true, false, false, false, false, false, false, false, false, false, false, false, false, false, false, false, false] rfl rfl (by kernel_rfl) (fun _ _ _ h => h) (Or.inl ⟨by rfl, ?_⟩) ?_ ?_
              rotate_left
              · intro w'
                go_simp
                with_reducible rfl
              rotate_left
              · simp only [Act.put, List.setIfInBounds_toArray, List.set_cons_zero, List.set_cons_succ]
                rfl
              refine take_ (i := 10) (N := some 59) (v := ?_) (a' := ?_) #[true, true, true, true, true, true, true, true, true, true, true, false, false, false, false, false, false, false, false, false, false, false, false, false, false, false] rfl rfl (by kernel_rfl) (fun _ _ _ h => h) (Or.inl ⟨by rfl, ?_⟩) (by first | exact hHeld | assumption) ?_ ?_
              rotate_left
              · rintro w' ⟨s0, s1⟩
                go_simp
                with_reducible rfl
              rotate_left
              · simp only [Act.put, List.setIfInBounds_toArray, List.set_cons_zero, List.set_cons_succ]
                rfl
              refine pure_ (i := 11) (N := some 60) (v := ?_) (a' := ?_) #[true, true, true, true, true, true, true, true, true, true, true, true, false, false, false, false, false, false, false, false, false, false, false, false, false, false] rfl rfl (by kernel_rfl) (fun _ _ _ h => h) (Or.inl ⟨by rfl, ?_⟩) ?_ ?_
              rotate_left
              · intro w'
                go_simp
                with_reducible rfl
              rotate_left
              · simp only [Act.put, List.setIfInBounds_toArray, List.set_cons_zero, List.set_cons_succ]
                rfl
              refine pure_ (i := 13) (N := some 62) (v := ?_) (a' := ?_) #[true, true, true, true, true, true, true, true, true, true, true, true, false, true, false, false, false, false, false, false, false, false, false, false, false, false] rfl rfl (by kernel_rfl) (fun _ _ _ h => h) (Or.inl ⟨by rfl, ?_⟩) ?_ ?_
              rotate_left
              · intro w'
                go_simp
                with_reducible rfl
              rotate_left
              · simp only [Act.put, List.setIfInBounds_toArray, List.set_cons_zero, List.set_cons_succ]
                rfl
              refine take_ (i := 14) (N := some 63) (v := ?_) (a' := ?_) #[true, true, true, true, true, true, true, true, true, true, true, true, false, true, true, false, false, false, false, false, false, false, false, false, false, false] rfl rfl (by kernel_rfl) (fun _ _ _ h => h) (Or.inl ⟨by rfl, ?_⟩) (by first | exact hHeld | assumption) ?_ ?_
              rotate_left
              · rintro w' ⟨s0, s1⟩
                go_simp
                with_reducible rfl
              rotate_left
              · simp only [Act.put, List.setIfInBounds_toArray, List.set_cons_zero, List.set_cons_succ]
                rfl
              refine pure_ (i := 15) (N := some 64) (v := ?_) (a' := ?_) #[true, true, true, true, true, true, true, true, true, true, true, true, false, true, true, true, false, false, false, false, false, false, false, false, false, false] rfl rfl (by kernel_rfl) (fun _ _ _ h => h) (Or.inl ⟨by rfl, ?_⟩) ?_ ?_
              rotate_left
              · intro w'
                go_simp
                with_reducible rfl
              rotate_left
              · simp only [Act.put, List.setIfInBounds_toArray, List.set_cons_zero, List.set_cons_succ]
                rfl
              refine pure_ (i := 18) (N := some 67) (v := ?_) (a' := ?_) #[true, true, true, true, true, true, true, true, true, true, true, true, false, true, true, true, false, false, true, false, false, false, false, false, false, false] rfl rfl (by kernel_rfl) (fun _ _ _ h => h) (Or.inl ⟨by rfl, ?_⟩) ?_ ?_
              rotate_left
              · intro w'
                go_simp
                with_reducible rfl
              rotate_left
              · simp only [Act.put, List.setIfInBounds_toArray, List.set_cons_zero, List.set_cons_succ]
                rfl
              refine pure_ (i := 20) (N := some 69) (v := ?_) (a' := ?_) #[true, true, true, true, true, true, true, true, true, true, true, true, false, true, true, true, false, false, true, false, true, false, false, false, false, false] rfl rfl (by kernel_rfl) (fun _ _ _ h => h) (Or.inl ⟨by rfl, ?_⟩) ?_ ?_
              rotate_left
              · intro w'
                go_simp
                with_reducible rfl
              rotate_left
              · simp only [Act.put, List.setIfInBounds_toArray, List.set_cons_zero, List.set_cons_succ]
                rfl
              refine one_ (i := 12) (N := some 61) #[true, true, true, true, true, true, true, true, true, true, true, true, true, true, true, true, false, false, true, false, true, false, false, false, false, false] rfl rfl (by kernel_rfl) (by decide) (fun K hK => ?_)
              refine call_ 15 #[.int .u8 p, .slice A l.length c] (by rfl) rfl (by first | (go_simp; done) | (go_simp; rfl)) ?_
              refine (digest_Tagged.calls p HP.out A c l _ (Kd.C_below HRL.out Bx1.out) (HG.out.below Bx1.out) (fun s hs => by have := HLS.out s hs; omega)).mono ?_
              rintro e x2 ⟨rfl, hb⟩
              rw [sha_tag p HP.out l HL2.out, ← HX.out]
              have Bx2 : Aside0 (Below w.heap.size w x2) := ⟨below_step Bx1.out hb⟩
              have Px2 : Aside0 (x2.heap[g3]? = some (.cells #[.int .u8 p, .int .u8 q] 34 (0, 0))) := ⟨blk_below Px1.out hb⟩
              clear hb
              refine ⟨_, rfl, hK.out _ _ ⟨(blk_cell Px2.out 0).trans rfl, (blk_cell Px2.out 1).trans rfl⟩ (fun hHeld => ?_)⟩
              clear hK K Bx1 Px1
              refine norm_ (a' := ?_) ?_ ?_
              rotate_left
              · show Act.put _ (some 61) _ = _
                simp only [Act.put, List.setIfInBounds_toArray, List.set_cons_zero, List.set_cons_succ]
                rfl
              refine one_ (i := 16) (N := some 65) #[true, true, true, true, true, true, true, true, true, true, true, true, true, true, true, true, true, false, true, false, true, false, false, false, false, false] rfl rfl (by kernel_rfl) (by decide) (fun K hK => ?_)
              refine call_ 15 #[.int .u8 q, .slice A' m.length c'] (by rfl) rfl (by first | (go_simp; done) | (go_simp; rfl)) ?_
              refine (digest_Tagged.calls q HQ.out A' c' m _ (Kd.C_below HRM.out Bx2.out) (HG.out.below Bx2.out) (fun s hs => by have := HMS.out s hs; omega)).mono ?_
              rintro e x3 ⟨rfl, hb⟩
              rw [sha_tag q HQ.out m HM2.out, ← HY.out]
              have Bx3 : Aside0 (Below w.heap.size w x3) := ⟨below_step Bx2.out hb⟩
              have Px3 : Aside0 (x3.heap[g3]? = some (.cells #[.int .u8 p, .int .u8 q] 34 (0, 0))) := ⟨blk_below Px2.out hb⟩
              clear hb
              refine ⟨_, rfl, hK.out _ _ ⟨(blk_cell Px3.out 0).trans rfl, (blk_cell Px3.out 1).trans rfl⟩ (fun hHeld => ?_)⟩
              clear hK K Bx2 Px2
              refine norm_ (a' := ?_) ?_ ?_
              rotate_left
              · show Act.put _ (some 65) _ = _
                simp only [Act.put, List.setIfInBounds_toArray, List.set_cons_zero, List.set_cons_succ]
                rfl
              refine pure_ (i := 17) (N := some 66) (v := ?_) (a' := ?_) #[true, true, true, true, true, true, true, true, true, true, true, true, true, true, true, true, true, true, true, false, true, false, false, false, false, false] rfl rfl (by kernel_rfl) (fun _ _ _ h => h) (Or.inl ⟨by rfl, ?_⟩) ?_ ?_
              rotate_left
              · intro w'
                go_simp
                with_reducible rfl
              rotate_left
              · simp only [Act.put, List.setIfInBounds_toArray, List.set_cons_zero, List.set_cons_succ]
                rfl
              refine one_ (i := 19) (N := some 68) #[true, true, true, true, true, true, true, true, true, true, true, true, true, true, true, true, true, true, true, true, true, false, false, false, false, false] rfl rfl (by kernel_rfl) (by decide) (fun K hK => ?_)
              refine call_ 10 #[.string X] (by rfl) rfl (by first | (go_simp; done) | (go_simp; rfl)) ?_
              refine (digest_Sum.calls X _ (HG.out.below Bx3.out) (by rw [HX.out, strOfNums_size, tagB_len]; have := HL2.out; omega)).mono ?_
              rintro e x4 ⟨rfl, hb⟩
              have Bx4 : Aside0 (Below w.heap.size w x4) := ⟨below_step Bx3.out hb⟩
              have Px4 : Aside0 (x4.heap[g3]? = some (.cells #[.int .u8 p, .int .u8 q] 34 (0, 0))) := ⟨blk_below Px3.out hb⟩
              clear hb
              refine ⟨_, rfl, hK.out _ _ ⟨(blk_cell Px4.out 0).trans rfl, (blk_cell Px4.out 1).trans rfl⟩ (fun hHeld => ?_)⟩
              clear hK K Bx3 Px3
              refine norm_ (a' := ?_) ?_ ?_
              rotate_left
              · show Act.put _ (some 68) _ = _
                simp only [Act.put, List.setIfInBounds_toArray, List.set_cons_zero, List.set_cons_succ]
                rfl
              refine one_ (i := 21) (N := some 70) #[true, true, true, true, true, true, true, true, true, true, true, true, true, true, true, true, true, true, true, true, true, true, false, false, false, false] rfl rfl (by kernel_rfl) (by decide) (fun K hK => ?_)
              refine call_ 10 #[.string Y] (by rfl) rfl (by first | (go_simp; done) | (go_simp; rfl)) ?_
              refine (digest_Sum.calls Y _ (HG.out.below Bx4.out) (by rw [HY.out, strOfNums_size, tagB_len]; have := HM2.out; omega)).mono ?_
              rintro e x5 ⟨rfl, hb⟩
              have Bx5 : Aside0 (Below w.heap.size w x5) := ⟨below_step Bx4.out hb⟩
              have Px5 : Aside0 (x5.heap[g3]? = some (.cells #[.int .u8 p, .int .u8 q] 34 (0, 0))) := ⟨blk_below Px4.out hb⟩
              clear hb
              refine ⟨_, rfl, hK.out _ _ ⟨(blk_cell Px5.out 0).trans rfl, (blk_cell Px5.out 1).trans rfl⟩ (fun hHeld => ?_)⟩
              clear hK K Bx4 Px4
              refine norm_ (a' := ?_) ?_ ?_
              rotate_left
              · show Act.put _ (some 70) _ = _
                simp only [Act.put, List.setIfInBounds_toArray, List.set_cons_zero, List.set_cons_succ]
                rfl
              refine pure_ (i := 22) (N := some 71) (v := ?_) (a' := ?_) #[true, true, true, true, true, true, true, true, true, true, true, true, true, true, true, true, true, true, true, true, true, true, true, false, false, false] rfl rfl (by kernel_rfl) (fun _ _ _ h => h) (Or.inl ⟨by rfl, ?_⟩) ?_ ?_
              rotate_left
              · intro w'
                go_simp
                with_reducible rfl
              rotate_left
              · simp only [Act.put, List.setIfInBounds_toArray, List.set_cons_zero, List.set_cons_succ]
                rfl
              refine pure_ (i := 23) (N := some 72) (v := ?_) (a' := ?_) #[true, true, true, true, true, true, true, true, true, true, true, true, true, true, true, true, true, true, true, true, true, true, true, true, false, false] rfl rfl (by kernel_rfl) (fun _ _ _ h => h) (Or.inl ⟨by rfl, ?_⟩) ?_ ?_
              rotate_left
              · intro w'
                go_simp
                with_reducible rfl
              rotate_left
              · simp only [Act.put, List.setIfInBounds_toArray, List.set_cons_zero, List.set_cons_succ]
                rfl
              refine pure_ (i := 24) (N := some 73) (v := ?_) (a' := ?_) #[true, true, true, true, true, true, true, true, true, true, true, true, true, true, true, true, true, true, true, true, true, true, true, true, true, false] rfl rfl (by kernel_rfl) (fun _ _ _ h => h) (Or.inl ⟨by rfl, ?_⟩) ?_ ?_
              rotate_left
              · intro w'
                go_simp
                with_reducible rfl
              rotate_left
              · simp only [Act.put, List.setIfInBounds_toArray, List.set_cons_zero, List.set_cons_succ]
                rfl
              refine pure_ (i := 25) (N := some 6) (v := ?_) (a' := ?_) #[true, true, true, true, true, true, true, true, true, true, true, true, true, true, true, true, true, true, true, true, true, true, true, true, true, true] rfl rfl (by kernel_rfl) (fun _ _ _ h => h) (Or.inl ⟨by rfl, ?_⟩) ?_ ?_
              rotate_left
              · intro w'
                go_simp
                with_reducible rfl
              rotate_left
              · simp only [Act.put, List.setIfInBounds_toArray, List.set_cons_zero, List.set_cons_succ]
                rfl
              refine done_ (by kernel_rfl) ?_
              go_wp2
              go_ret
              exact ⟨by first | rfl | simp, Bx5.out⟩

    · have q1 : ((l.length : Int) == (m.length : Int)) = false := beq_eq_false_iff_ne.mpr (by omega)
      have HLL := Aside0.mk hll
      clear hll
      go_wp2_with (fail)
      go_loopg [9, 10] (l.length + 1) (fun kq v9 v10 w' => ∃ (n : Nat) (sb : Bool), v10 = .int .i64 (n : Int) ∧ v9 = .bool sb ∧ Aside0 (n + kq = l.length + 1 ∧ n ≤ l.length) ∧ Aside0 (sb = true ↔ (p = q ∧ l.length = m.length ∧ l.take n = m.take n)) ∧ Aside0 (w'.heap[g3]? = some (.cells #[.int .u8 p, .int .u8 q] 34 (0, 0))) ∧ Aside0 (Below w.heap.size w w'))
      case atStart => exact ⟨0, false, rfl, rfl, ⟨by omega, by omega⟩, ⟨fun h => by simp at h, fun h => absurd h.2.1 HLL.out⟩, P3, B3⟩
      case round =>
        clear P3 B3 cp cq
        obtain ⟨n, sb, rfl, rfl, HN, HSB, P, B⟩ := hrel
        cases gk with
        | zero => have := HN.out; omega
        | succ k1 =>
          by_cases hgo : n < l.length ∧ sb = true
          · obtain ⟨hn, rfl⟩ := hgo
            have hlt : ((n : Int) < (l.length : Int)) = True := eq_true (by omega)
            have hsb := HSB.out.1 rfl
            obtain ⟨ad, ea, h0⟩ := Kd.at_string HRL.out (n : Int) (by omega) (by omega)
            obtain ⟨bd, eb, h1⟩ := Kd.at_string HRM.out (n : Int) (by omega) (by omega)
            subst ea eb
            have c0 := below_cell h0 B.out
            have c1 := below_cell h1 B.out
            rw [Int.toNat_natCast] at c0 c1
            have hlm : ((n : Int) < (m.length : Int)) = True := eq_true (by have := hsb.2.1; omega)
            obtain ⟨s, ys⟩ : ∃ s : ByteArray, s = rdOf ByteArray.empty l (n : Int) := ⟨_, rfl⟩
            obtain ⟨s', ys'⟩ : ∃ s : ByteArray, s = rdOf ByteArray.empty m (n : Int) := ⟨_, rfl⟩
            rw [← ys] at c0
            rw [← ys'] at c1
            have HE : Aside0 (s = s' ↔ l.take (n + 1) = m.take (n + 1)) := ⟨by
              have e1 : l.take (n + 1) = l.take n ++ [s] := by
                rw [List.take_add_one, List.getElem?_eq_getElem hn, ys]
                simp [rdOf, List.getElem?_eq_getElem hn]
              have e2 : m.take (n + 1) = m.take n ++ [s'] := by
                rw [List.take_add_one, List.getElem?_eq_getElem (by omega), ys']
                simp [rdOf, List.getElem?_eq_getElem (show n < m.length by omega)]
              rw [e1, e2, hsb.2.2]
              simp⟩
            have HSQ := Aside0.mk hsb
            clear h0 h1 ys ys' hsb
            by_cases hss : s = s'
            · subst hss
              go_wp2_with (fail)
              go_quiet (fail)
              go_wp2
              go_roundg k1
              case measure => have := HN.out; omega
              case rel => exact ⟨n + 1, true, by have hm := Kd.C_max HRL.out; rw [IntWalk.wrap64_in _ (by omega)]; rfl, by first | rfl | simp, ⟨by have := HN.out; omega, by omega⟩, ⟨fun _ => ⟨HSQ.out.1, HSQ.out.2.1, HE.out.1 (by first | rfl | trivial)⟩, fun _ => rfl⟩, P, ⟨pw_below_drewN B.out _⟩⟩
            · have hs2 : (s.toList == s'.toList) = false := beq_eq_false_iff_ne.mpr (fun h => hss (toList_inj h))
              have hs3 : (s = s') = False := eq_false hss
              have HSS := Aside0.mk hss
              clear hss
              go_wp2_with (fail)
              go_quiet (fail)
              go_wp2
              go_roundg k1
              case measure => have := HN.out; omega
              case rel => exact ⟨n + 1, false, by have hm := Kd.C_max HRL.out; rw [IntWalk.wrap64_in _ (by omega)]; rfl, by first | rfl | simp, ⟨by have := HN.out; omega, by omega⟩, ⟨fun h => by simp at h, fun h => absurd (HE.out.2 h.2.2) HSS.out⟩, P, ⟨pw_below_drewN B.out _⟩⟩
          · have HSB2 : Aside0 (sb = true ↔ p = q ∧ l = m) := ⟨by
              constructor
              · intro h
                have h1 := HSB.out.1 h
                have hn : n = l.length := by have := HN.out; have : ¬ n < l.length := fun h2 => hgo ⟨h2, h⟩; omega
                have h2 := h1.2.2
                rw [hn, List.take_length, h1.2.1, List.take_length] at h2
                exact ⟨h1.1, h2⟩
              · rintro ⟨rfl, rfl⟩
                exact HSB.out.2 ⟨rfl, rfl, rfl⟩⟩
            have hcond : ((decide ((n : Int) < (l.length : Int)) && sb) = false) := by
              cases sb
              · simp
              · have : ¬ n < l.length := fun h2 => hgo ⟨h2, rfl⟩
                simp
                omega
            have HXY : Aside0 (X = Y ↔ sb = true) := ⟨by
              rw [HX.out, HY.out, HSB2.out]
              exact tag_inj HP.out HQ.out l m (fun s hs => by have := HLS.out s hs; omega) (fun s hs => by have := HMS.out s hs; omega)⟩
            have cp := (blk_cell P.out 0).trans rfl
            have cq := (blk_cell P.out 1).trans rfl
            clear hgo
            by_cases hn : n < l.length
            · have hlt : ((n : Int) < (l.length : Int)) = True := eq_true (by omega)
              obtain rfl : sb = false := by simpa [hn] using hcond
              clear hcond
              have hxy : (X.toList == Y.toList) = false := beq_eq_false_iff_ne.mpr (fun h => Bool.noConfusion (HXY.out.1 (toList_inj h)))
              clear HSB HSB2 HXY
              go_upto_region 7 with (fail)
              have Bx0 : Aside0 (Below w.heap.size w wr.drew) := ⟨below_drew1 B.out⟩
              have Px0 : Aside0 (wr.drew.heap[g3]? = some (.cells #[.int .u8 p, .int .u8 q] 34 (0, 0))) := ⟨P.out⟩
              refine start_ (n := 26) (S := fun w' => w'.cell? ⟨g3, 0, none⟩ = some (.int .u8 p) ∧ w'.cell? ⟨g3, 1, none⟩ = some (.int .u8 q)) (ds := []) #[false, false, false, false, false, false, false, false, false, false, false, false, false, false, false, false, false, false, false, false, false, false, false, false, false, false] (by kernel_rfl) rfl rfl ⟨cp, cq⟩ (fun hHeld => ?_)
              refine one_ (i := 0) (N := some 49) #[true, false, false, false, false, false, false, false, false, false, false, false, false, false, false, false, false, false, false, false, false, false, false, false, false, false] rfl rfl (by kernel_rfl) (by decide) (fun K hK => ?_)
              refine call_ 9 #[] (by rfl) rfl (by first | (go_simp; done) | (go_simp; rfl)) ?_
              refine (stowagelaw03_awake.calls _ (HG.out.below Bx0.out)).mono ?_
              rintro e x1 ⟨rfl, hb⟩
              have Bx1 : Aside0 (Below w.heap.size w x1) := ⟨below_step Bx0.out hb⟩
              have Px1 : Aside0 (x1.heap[g3]? = some (.cells #[.int .u8 p, .int .u8 q] 34 (0, 0))) := ⟨blk_below Px0.out hb⟩
              clear hb
              refine ⟨_, rfl, hK.out _ _ ⟨(blk_cell Px1.out 0).trans rfl, (blk_cell Px1.out 1).trans rfl⟩ (fun hHeld => ?_)⟩
              clear hK K Bx0 Px0
              refine norm_ (a' := ?_) ?_ ?_
              rotate_left
              · show Act.put _ (some 49) _ = _
                simp only [Act.put, List.setIfInBounds_toArray, List.set_cons_zero, List.set_cons_succ]
                rfl
              refine pure_ (i := 1) (N := some 50) (v := ?_) (a' := ?_) #[true, true, false, false, false, false, false, false, false, false, false, false, false, false, false, false, false, false, false, false, false, false, false, false, false, false] rfl rfl (by kernel_rfl) (fun _ _ _ h => h) (Or.inl ⟨by rfl, ?_⟩) ?_ ?_
              rotate_left
              · intro w'
                go_simp
                with_reducible rfl
              rotate_left
              · simp only [Act.put, List.setIfInBounds_toArray, List.set_cons_zero, List.set_cons_succ]
                rfl
              refine pure_ (i := 2) (N := some 51) (v := ?_) (a' := ?_) #[true, true, true, false, false, false, false, false, false, false, false, false, false, false, false, false, false, false, false, false, false, false, false, false, false, false] rfl rfl (by kernel_rfl) (fun _ _ _ h => h) (Or.inl ⟨by rfl, ?_⟩) ?_ ?_
              rotate_left
              · intro w'
                go_simp
                with_reducible rfl
              rotate_left
              · simp only [Act.put, List.setIfInBounds_toArray, List.set_cons_zero, List.set_cons_succ]
                rfl
              refine pure_ (i := 3) (N := some 52) (v := ?_) (a' := ?_) #[true, true, true, true, false, false, false, false, false, false, false, false, false, false, false, false, false, false, false, false, false, false, false, false, false, false] rfl rfl (by kernel_rfl) (fun _ _ _ h => h) (Or.inl ⟨by rfl, ?_⟩) ?_ ?_
              rotate_left
              · intro w'
                go_simp
                with_reducible rfl
              rotate_left
              · simp only [Act.put, List.setIfInBounds_toArray, List.set_cons_zero, List.set_cons_succ]
                rfl
              refine pure_ (i := 4) (N := some 53) (v := ?_) (a' := ?_) #[true, true, true, true, true, false, false, false, false, false, false, false, false, false, false, false, false, false, false, false, false, false, false, false, false, false] rfl rfl (by kernel_rfl) (fun _ _ _ h => h) (Or.inl ⟨by rfl, ?_⟩) ?_ ?_
              rotate_left
              · intro w'
                go_simp
                with_reducible rfl
              rotate_left
              · simp only [Act.put, List.setIfInBounds_toArray, List.set_cons_zero, List.set_cons_succ]
                rfl
              refine pure_ (i := 5) (N := some 54) (v := ?_) (a' := ?_) #[true, true, true, true, true, true, false, false, false, false, false, false, false, false, false, false, false, false, false, false, false, false, false, false, false, false] rfl rfl (by kernel_rfl) (fun _ _ _ h => h) (Or.inl ⟨by rfl, ?_⟩) ?_ ?_
              rotate_left
              · intro w'
                go_simp
                with_reducible rfl
              rotate_left
              · simp only [Act.put, List.setIfInBounds_toArray, List.set_cons_zero, List.set_cons_succ]
                rfl
              refine pure_ (i := 6) (N := some 55) (v := ?_) (a' := ?_) #[true, true, true, true, true, true, true, false, false, false, false, false, false, false, false, false, false, false, false, false, false, false, false, false, false, false] rfl rfl (by kernel_rfl) (fun _ _ _ h => h) (Or.inl ⟨by rfl, ?_⟩) ?_ ?_
              rotate_left
              · intro w'
                go_simp
                with_reducible rfl
              rotate_left
              · simp only [Act.put, List.setIfInBounds_toArray, List.set_cons_zero, List.set_cons_succ]
                rfl
              refine pure_ (i := 7) (N := some 56) (v := ?_) (a' := ?_) #[true, true, true, true, true, true, true, true, false, false, false, false, false, false, false, false, false, false, false, false, false, false, false, false, false, false] rfl rfl (by kernel_rfl) (fun _ _ _ h => h) (Or.inl ⟨by rfl, ?_⟩) ?_ ?_
              rotate_left
              · intro w'
                go_simp
                with_reducible rfl
              rotate_left
              · simp only [Act.put, List.setIfInBounds_toArray, List.set_cons_zero, List.set_cons_succ]
                rfl
              refine pure_ (i := 8) (N := some 57) (v := ?_) (a' := ?_) #[true, true, true, true, true, true, true, true, true, false, false, false, false, false, false, false, false, false, false, false, false, false, false, false, false, false] rfl rfl (by kernel_rfl) (fun _ _ _ h => h) (Or.inl ⟨by rfl, ?_⟩) ?_ ?_
              rotate_left
              · intro w'
                go_simp
                with_reducible rfl
              rotate_left
              · simp only [Act.put, List.setIfInBounds_toArray, List.set_cons_zero, List.set_cons_succ]
                rfl
              refine pure_ (i := 9) (N := some 58) (v := ?_) (a' := ?_) #[true, true, true, true, true, true, true, true, true, true, false, false, false, false, false, false, false, false, false, false, false, false, false, false, false, false] rfl rfl (by kernel_rfl) (fun _ _ _ h => h) (Or.inl ⟨by rfl, ?_⟩) ?_ ?_
              rotate_left
              · intro w'
                go_simp
                with_reducible rfl
              rotate_left
              · simp only [Act.put, List.setIfInBounds_toArray, List.set_cons_zero, List.set_cons_succ]
                rfl
              refine take_ (i := 10) (N := some 59) (v := ?_) (a' := ?_) #[true, true, true, true, true, true, true, true, true, true, true, false, false, false, false, false, false, false, false, false, false, false, false, false, false, false] rfl rfl (by kernel_rfl) (fun _ _ _ h => h) (Or.inl ⟨by rfl, ?_⟩) (by first | exact hHeld | assumption) ?_ ?_
              rotate_left
              · rintro w' ⟨s0, s1⟩
                go_simp
                with_reducible rfl
              rotate_left
              · simp only [Act.put, List.setIfInBounds_toArray, List.set_cons_zero, List.set_cons_succ]
                rfl
              refine pure_ (i := 11) (N := some 60) (v := ?_) (a' := ?_) #[true, true, true, true, true, true, true, true, true, true, true, true, false, false, false, false, false, false, false, false, false, false, false, false, false, false] rfl rfl (by kernel_rfl) (fun _ _ _ h => h) (Or.inl ⟨by rfl, ?_⟩) ?_ ?_
              rotate_left
              · intro w'
                go_simp
                with_reducible rfl
              rotate_left
              · simp only [Act.put, List.setIfInBounds_toArray, List.set_cons_zero, List.set_cons_succ]
                rfl
              refine pure_ (i := 13) (N := some 62) (v := ?_) (a' := ?_) #[true, true, true, true, true, true, true, true, true, true, true, true, false, true, false, false, false, false, false, false, false, false, false, false, false, false] rfl rfl (by kernel_rfl) (fun _ _ _ h => h) (Or.inl ⟨by rfl, ?_⟩) ?_ ?_
              rotate_left
              · intro w'
                go_simp
                with_reducible rfl
              rotate_left
              · simp only [Act.put, List.setIfInBounds_toArray, List.set_cons_zero, List.set_cons_succ]
                rfl
              refine take_ (i := 14) (N := some 63) (v := ?_) (a' := ?_) #[true, true, true, true, true, true, true, true, true, true, true, true, false, true, true, false, false, false, false, false, false, false, false, false, false, false] rfl rfl (by kernel_rfl) (fun _ _ _ h => h) (Or.inl ⟨by rfl, ?_⟩) (by first | exact hHeld | assumption) ?_ ?_
              rotate_left
              · rintro w' ⟨s0, s1⟩
                go_simp
                with_reducible rfl
              rotate_left
              · simp only [Act.put, List.setIfInBounds_toArray, List.set_cons_zero, List.set_cons_succ]
                rfl
              refine pure_ (i := 15) (N := some 64) (v := ?_) (a' := ?_) #[true, true, true, true, true, true, true, true, true, true, true, true, false, true, true, true, false, false, false, false, false, false, false, false, false, false] rfl rfl (by kernel_rfl) (fun _ _ _ h => h) (Or.inl ⟨by rfl, ?_⟩) ?_ ?_
              rotate_left
              · intro w'
                go_simp
                with_reducible rfl
              rotate_left
              · simp only [Act.put, List.setIfInBounds_toArray, List.set_cons_zero, List.set_cons_succ]
                rfl
              refine pure_ (i := 18) (N := some 67) (v := ?_) (a' := ?_) #[true, true, true, true, true, true, true, true, true, true, true, true, false, true, true, true, false, false, true, false, false, false, false, false, false, false] rfl rfl (by kernel_rfl) (fun _ _ _ h => h) (Or.inl ⟨by rfl, ?_⟩) ?_ ?_
              rotate_left
              · intro w'
                go_simp
                with_reducible rfl
              rotate_left
              · simp only [Act.put, List.setIfInBounds_toArray, List.set_cons_zero, List.set_cons_succ]
                rfl
              refine pure_ (i := 20) (N := some 69) (v := ?_) (a' := ?_) #[true, true, true, true, true, true, true, true, true, true, true, true, false, true, true, true, false, false, true, false, true, false, false, false, false, false] rfl rfl (by kernel_rfl) (fun _ _ _ h => h) (Or.inl ⟨by rfl, ?_⟩) ?_ ?_
              rotate_left
              · intro w'
                go_simp
                with_reducible rfl
              rotate_left
              · simp only [Act.put, List.setIfInBounds_toArray, List.set_cons_zero, List.set_cons_succ]
                rfl
              refine one_ (i := 12) (N := some 61) #[true, true, true, true, true, true, true, true, true, true, true, true, true, true, true, true, false, false, true, false, true, false, false, false, false, false] rfl rfl (by kernel_rfl) (by decide) (fun K hK => ?_)
              refine call_ 15 #[.int .u8 p, .slice A l.length c] (by rfl) rfl (by first | (go_simp; done) | (go_simp; rfl)) ?_
              refine (digest_Tagged.calls p HP.out A c l _ (Kd.C_below HRL.out Bx1.out) (HG.out.below Bx1.out) (fun s hs => by have := HLS.out s hs; omega)).mono ?_
              rintro e x2 ⟨rfl, hb⟩
              rw [sha_tag p HP.out l HL2.out, ← HX.out]
              have Bx2 : Aside0 (Below w.heap.size w x2) := ⟨below_step Bx1.out hb⟩
              have Px2 : Aside0 (x2.heap[g3]? = some (.cells #[.int .u8 p, .int .u8 q] 34 (0, 0))) := ⟨blk_below Px1.out hb⟩
              clear hb
              refine ⟨_, rfl, hK.out _ _ ⟨(blk_cell Px2.out 0).trans rfl, (blk_cell Px2.out 1).trans rfl⟩ (fun hHeld => ?_)⟩
              clear hK K Bx1 Px1
              refine norm_ (a' := ?_) ?_ ?_
              rotate_left
              · show Act.put _ (some 61) _ = _
                simp only [Act.put, List.setIfInBounds_toArray, List.set_cons_zero, List.set_cons_succ]
                rfl
              refine one_ (i := 16) (N := some 65) #[true, true, true, true, true, true, true, true, true, true, true, true, true, true, true, true, true, false, true, false, true, false, false, false, false, false] rfl rfl (by kernel_rfl) (by decide) (fun K hK => ?_)
              refine call_ 15 #[.int .u8 q, .slice A' m.length c'] (by rfl) rfl (by first | (go_simp; done) | (go_simp; rfl)) ?_
              refine (digest_Tagged.calls q HQ.out A' c' m _ (Kd.C_below HRM.out Bx2.out) (HG.out.below Bx2.out) (fun s hs => by have := HMS.out s hs; omega)).mono ?_
              rintro e x3 ⟨rfl, hb⟩
              rw [sha_tag q HQ.out m HM2.out, ← HY.out]
              have Bx3 : Aside0 (Below w.heap.size w x3) := ⟨below_step Bx2.out hb⟩
              have Px3 : Aside0 (x3.heap[g3]? = some (.cells #[.int .u8 p, .int .u8 q] 34 (0, 0))) := ⟨blk_below Px2.out hb⟩
              clear hb
              refine ⟨_, rfl, hK.out _ _ ⟨(blk_cell Px3.out 0).trans rfl, (blk_cell Px3.out 1).trans rfl⟩ (fun hHeld => ?_)⟩
              clear hK K Bx2 Px2
              refine norm_ (a' := ?_) ?_ ?_
              rotate_left
              · show Act.put _ (some 65) _ = _
                simp only [Act.put, List.setIfInBounds_toArray, List.set_cons_zero, List.set_cons_succ]
                rfl
              refine pure_ (i := 17) (N := some 66) (v := ?_) (a' := ?_) #[true, true, true, true, true, true, true, true, true, true, true, true, true, true, true, true, true, true, true, false, true, false, false, false, false, false] rfl rfl (by kernel_rfl) (fun _ _ _ h => h) (Or.inl ⟨by rfl, ?_⟩) ?_ ?_
              rotate_left
              · intro w'
                go_simp
                with_reducible rfl
              rotate_left
              · simp only [Act.put, List.setIfInBounds_toArray, List.set_cons_zero, List.set_cons_succ]
                rfl
              refine one_ (i := 19) (N := some 68) #[true, true, true, true, true, true, true, true, true, true, true, true, true, true, true, true, true, true, true, true, true, false, false, false, false, false] rfl rfl (by kernel_rfl) (by decide) (fun K hK => ?_)
              refine call_ 10 #[.string X] (by rfl) rfl (by first | (go_simp; done) | (go_simp; rfl)) ?_
              refine (digest_Sum.calls X _ (HG.out.below Bx3.out) (by rw [HX.out, strOfNums_size, tagB_len]; have := HL2.out; omega)).mono ?_
              rintro e x4 ⟨rfl, hb⟩
              have Bx4 : Aside0 (Below w.heap.size w x4) := ⟨below_step Bx3.out hb⟩
              have Px4 : Aside0 (x4.heap[g3]? = some (.cells #[.int .u8 p, .int .u8 q] 34 (0, 0))) := ⟨blk_below Px3.out hb⟩
              clear hb
              refine ⟨_, rfl, hK.out _ _ ⟨(blk_cell Px4.out 0).trans rfl, (blk_cell Px4.out 1).trans rfl⟩ (fun hHeld => ?_)⟩
              clear hK K Bx3 Px3
              refine norm_ (a' := ?_) ?_ ?_
              rotate_left
              · show Act.put _ (some 68) _ = _
                simp only [Act.put, List.setIfInBounds_toArray, List.set_cons_zero, List.set_cons_succ]
                rfl
              refine one_ (i := 21) (N := some 70) #[true, true, true, true, true, true, true, true, true, true, true, true, true, true, true, true, true, true, true, true, true, true, false, false, false, false] rfl rfl (by kernel_rfl) (by decide) (fun K hK => ?_)
              refine call_ 10 #[.string Y] (by rfl) rfl (by first | (go_simp; done) | (go_simp; rfl)) ?_
              refine (digest_Sum.calls Y _ (HG.out.below Bx4.out) (by rw [HY.out, strOfNums_size, tagB_len]; have := HM2.out; omega)).mono ?_
              rintro e x5 ⟨rfl, hb⟩
              have Bx5 : Aside0 (Below w.heap.size w x5) := ⟨below_step Bx4.out hb⟩
              have Px5 : Aside0 (x5.heap[g3]? = some (.cells #[.int .u8 p, .int .u8 q] 34 (0, 0))) := ⟨blk_below Px4.out hb⟩
              clear hb
              refine ⟨_, rfl, hK.out _ _ ⟨(blk_cell Px5.out 0).trans rfl, (blk_cell Px5.out 1).trans rfl⟩ (fun hHeld => ?_)⟩
              clear hK K Bx4 Px4
              refine norm_ (a' := ?_) ?_ ?_
              rotate_left
              · show Act.put _ (some 70) _ = _
                simp only [Act.put, List.setIfInBounds_toArray, List.set_cons_zero, List.set_cons_succ]
                rfl
              refine pure_ (i := 22) (N := some 71) (v := ?_) (a' := ?_) #[true, true, true, true, true, true, true, true, true, true, true, true, true, true, true, true, true, true, true, true, true, true, true, false, false, false] rfl rfl (by kernel_rfl) (fun _ _ _ h => h) (Or.inl ⟨by rfl, ?_⟩) ?_ ?_
              rotate_left
              · intro w'
                go_simp
                with_reducible rfl
              rotate_left
              · simp only [Act.put, List.setIfInBounds_toArray, List.set_cons_zero, List.set_cons_succ]
                rfl
              refine pure_ (i := 23) (N := some 72) (v := ?_) (a' := ?_) #[true, true, true, true, true, true, true, true, true, true, true, true, true, true, true, true, true, true, true, true, true, true, true, true, false, false] rfl rfl (by kernel_rfl) (fun _ _ _ h => h) (Or.inl ⟨by rfl, ?_⟩) ?_ ?_
              rotate_left
              · intro w'
                go_simp
                with_reducible rfl
              rotate_left
              · simp only [Act.put, List.setIfInBounds_toArray, List.set_cons_zero, List.set_cons_succ]
                rfl
              refine pure_ (i := 24) (N := some 73) (v := ?_) (a' := ?_) #[true, true, true, true, true, true, true, true, true, true, true, true, true, true, true, true, true, true, true, true, true, true, true, true, true, false] rfl rfl (by kernel_rfl) (fun _ _ _ h => h) (Or.inl ⟨by rfl, ?_⟩) ?_ ?_
              rotate_left
              · intro w'
                go_simp
                with_reducible rfl
              rotate_left
              · simp only [Act.put, List.setIfInBounds_toArray, List.set_cons_zero, List.set_cons_succ]
                rfl
              refine pure_ (i := 25) (N := some 6) (v := ?_) (a' := ?_) #[true, true, true, true, true, true, true, true, true, true, true, true, true, true, true, true, true, true, true, true, true, true, true, true, true, true] rfl rfl (by kernel_rfl) (fun _ _ _ h => h) (Or.inl ⟨by rfl, ?_⟩) ?_ ?_
              rotate_left
              · intro w'
                go_simp
                with_reducible rfl
              rotate_left
              · simp only [Act.put, List.setIfInBounds_toArray, List.set_cons_zero, List.set_cons_succ]
                rfl
              refine done_ (by kernel_rfl) ?_
              go_wp2
              go_ret
              exact ⟨by first | rfl | simp, Bx5.out⟩
            · have hlt : ((n : Int) < (l.length : Int)) = False := eq_false (by omega)
              clear hcond
              have hxy : (X.toList == Y.toList) = sb := by
                cases sb
                · exact beq_eq_false_iff_ne.mpr (fun h => Bool.noConfusion (HXY.out.1 (toList_inj h)))
                · exact beq_iff_eq.mpr (by rw [HXY.out.2 rfl])
              clear HSB HSB2 HXY
              go_upto_region 7 with (fail)
              have Bx0 : Aside0 (Below w.heap.size w wr.drew) := ⟨below_drew1 B.out⟩
              have Px0 : Aside0 (wr.drew.heap[g3]? = some (.cells #[.int .u8 p, .int .u8 q] 34 (0, 0))) := ⟨P.out⟩
              refine start_ (n := 26) (S := fun w' => w'.cell? ⟨g3, 0, none⟩ = some (.int .u8 p) ∧ w'.cell? ⟨g3, 1, none⟩ = some (.int .u8 q)) (ds := []) #[false, false, false, false, false, false, false, false, false, false, false, false, false, false, false, false, false, false, false, false, false, false, false, false, false, false] (by kernel_rfl) rfl rfl ⟨cp, cq⟩ (fun hHeld => ?_)
              refine one_ (i := 0) (N := some 49) #[true, false, false, false, false, false, false, false, false, false, false, false, false, false, false, false, false, false, false, false, false, false, false, false, false, false] rfl rfl (by kernel_rfl) (by decide) (fun K hK => ?_)
              refine call_ 9 #[] (by rfl) rfl (by first | (go_simp; done) | (go_simp; rfl)) ?_
              refine (stowagelaw03_awake.calls _ (HG.out.below Bx0.out)).mono ?_
              rintro e x1 ⟨rfl, hb⟩
              have Bx1 : Aside0 (Below w.heap.size w x1) := ⟨below_step Bx0.out hb⟩
              have Px1 : Aside0 (x1.heap[g3]? = some (.cells #[.int .u8 p, .int .u8 q] 34 (0, 0))) := ⟨blk_below Px0.out hb⟩
              clear hb
              refine ⟨_, rfl, hK.out _ _ ⟨(blk_cell Px1.out 0).trans rfl, (blk_cell Px1.out 1).trans rfl⟩ (fun hHeld => ?_)⟩
              clear hK K Bx0 Px0
              refine norm_ (a' := ?_) ?_ ?_
              rotate_left
              · show Act.put _ (some 49) _ = _
                simp only [Act.put, List.setIfInBounds_toArray, List.set_cons_zero, List.set_cons_succ]
                rfl
              refine pure_ (i := 1) (N := some 50) (v := ?_) (a' := ?_) #[true, true, false, false, false, false, false, false, false, false, false, false, false, false, false, false, false, false, false, false, false, false, false, false, false, false] rfl rfl (by kernel_rfl) (fun _ _ _ h => h) (Or.inl ⟨by rfl, ?_⟩) ?_ ?_
              rotate_left
              · intro w'
                go_simp
                with_reducible rfl
              rotate_left
              · simp only [Act.put, List.setIfInBounds_toArray, List.set_cons_zero, List.set_cons_succ]
                rfl
              refine pure_ (i := 2) (N := some 51) (v := ?_) (a' := ?_) #[true, true, true, false, false, false, false, false, false, false, false, false, false, false, false, false, false, false, false, false, false, false, false, false, false, false] rfl rfl (by kernel_rfl) (fun _ _ _ h => h) (Or.inl ⟨by rfl, ?_⟩) ?_ ?_
              rotate_left
              · intro w'
                go_simp
                with_reducible rfl
              rotate_left
              · simp only [Act.put, List.setIfInBounds_toArray, List.set_cons_zero, List.set_cons_succ]
                rfl
              refine pure_ (i := 3) (N := some 52) (v := ?_) (a' := ?_) #[true, true, true, true, false, false, false, false, false, false, false, false, false, false, false, false, false, false, false, false, false, false, false, false, false, false] rfl rfl (by kernel_rfl) (fun _ _ _ h => h) (Or.inl ⟨by rfl, ?_⟩) ?_ ?_
              rotate_left
              · intro w'
                go_simp
                with_reducible rfl
              rotate_left
              · simp only [Act.put, List.setIfInBounds_toArray, List.set_cons_zero, List.set_cons_succ]
                rfl
              refine pure_ (i := 4) (N := some 53) (v := ?_) (a' := ?_) #[true, true, true, true, true, false, false, false, false, false, false, false, false, false, false, false, false, false, false, false, false, false, false, false, false, false] rfl rfl (by kernel_rfl) (fun _ _ _ h => h) (Or.inl ⟨by rfl, ?_⟩) ?_ ?_
              rotate_left
              · intro w'
                go_simp
                with_reducible rfl
              rotate_left
              · simp only [Act.put, List.setIfInBounds_toArray, List.set_cons_zero, List.set_cons_succ]
                rfl
              refine pure_ (i := 5) (N := some 54) (v := ?_) (a' := ?_) #[true, true, true, true, true, true, false, false, false, false, false, false, false, false, false, false, false, false, false, false, false, false, false, false, false, false] rfl rfl (by kernel_rfl) (fun _ _ _ h => h) (Or.inl ⟨by rfl, ?_⟩) ?_ ?_
              rotate_left
              · intro w'
                go_simp
                with_reducible rfl
              rotate_left
              · simp only [Act.put, List.setIfInBounds_toArray, List.set_cons_zero, List.set_cons_succ]
                rfl
              refine pure_ (i := 6) (N := some 55) (v := ?_) (a' := ?_) #[true, true, true, true, true, true, true, false, false, false, false, false, false, false, false, false, false, false, false, false, false, false, false, false, false, false] rfl rfl (by kernel_rfl) (fun _ _ _ h => h) (Or.inl ⟨by rfl, ?_⟩) ?_ ?_
              rotate_left
              · intro w'
                go_simp
                with_reducible rfl
              rotate_left
              · simp only [Act.put, List.setIfInBounds_toArray, List.set_cons_zero, List.set_cons_succ]
                rfl
              refine pure_ (i := 7) (N := some 56) (v := ?_) (a' := ?_) #[true, true, true, true, true, true, true, true, false, false, false, false, false, false, false, false, false, false, false, false, false, false, false, false, false, false] rfl rfl (by kernel_rfl) (fun _ _ _ h => h) (Or.inl ⟨by rfl, ?_⟩) ?_ ?_
              rotate_left
              · intro w'
                go_simp
                with_reducible rfl
              rotate_left
              · simp only [Act.put, List.setIfInBounds_toArray, List.set_cons_zero, List.set_cons_succ]
                rfl
              refine pure_ (i := 8) (N := some 57) (v := ?_) (a' := ?_) #[true, true, true, true, true, true, true, true, true, false, false, false, false, false, false, false, false, false, false, false, false, false, false, false, false, false] rfl rfl (by kernel_rfl) (fun _ _ _ h => h) (Or.inl ⟨by rfl, ?_⟩) ?_ ?_
              rotate_left
              · intro w'
                go_simp
                with_reducible rfl
              rotate_left
              · simp only [Act.put, List.setIfInBounds_toArray, List.set_cons_zero, List.set_cons_succ]
                rfl
              refine pure_ (i := 9) (N := some 58) (v := ?_) (a' := ?_) #[true, true, true, true, true, true, true, true, true, true, false, false, false, false, false, false, false, false, false, false, false, false, false, false, false, false] rfl rfl (by kernel_rfl) (fun _ _ _ h => h) (Or.inl ⟨by rfl, ?_⟩) ?_ ?_
              rotate_left
              · intro w'
                go_simp
                with_reducible rfl
              rotate_left
              · simp only [Act.put, List.setIfInBounds_toArray, List.set_cons_zero, List.set_cons_succ]
                rfl
              refine take_ (i := 10) (N := some 59) (v := ?_) (a' := ?_) #[true, true, true, true, true, true, true, true, true, true, true, false, false, false, false, false, false, false, false, false, false, false, false, false, false, false] rfl rfl (by kernel_rfl) (fun _ _ _ h => h) (Or.inl ⟨by rfl, ?_⟩) (by first | exact hHeld | assumption) ?_ ?_
              rotate_left
              · rintro w' ⟨s0, s1⟩
                go_simp
                with_reducible rfl
              rotate_left
              · simp only [Act.put, List.setIfInBounds_toArray, List.set_cons_zero, List.set_cons_succ]
                rfl
              refine pure_ (i := 11) (N := some 60) (v := ?_) (a' := ?_) #[true, true, true, true, true, true, true, true, true, true, true, true, false, false, false, false, false, false, false, false, false, false, false, false, false, false] rfl rfl (by kernel_rfl) (fun _ _ _ h => h) (Or.inl ⟨by rfl, ?_⟩) ?_ ?_
              rotate_left
              · intro w'
                go_simp
                with_reducible rfl
              rotate_left
              · simp only [Act.put, List.setIfInBounds_toArray, List.set_cons_zero, List.set_cons_succ]
                rfl
              refine pure_ (i := 13) (N := some 62) (v := ?_) (a' := ?_) #[true, true, true, true, true, true, true, true, true, true, true, true, false, true, false, false, false, false, false, false, false, false, false, false, false, false] rfl rfl (by kernel_rfl) (fun _ _ _ h => h) (Or.inl ⟨by rfl, ?_⟩) ?_ ?_
              rotate_left
              · intro w'
                go_simp
                with_reducible rfl
              rotate_left
              · simp only [Act.put, List.setIfInBounds_toArray, List.set_cons_zero, List.set_cons_succ]
                rfl
              refine take_ (i := 14) (N := some 63) (v := ?_) (a' := ?_) #[true, true, true, true, true, true, true, true, true, true, true, true, false, true, true, false, false, false, false, false, false, false, false, false, false, false] rfl rfl (by kernel_rfl) (fun _ _ _ h => h) (Or.inl ⟨by rfl, ?_⟩) (by first | exact hHeld | assumption) ?_ ?_
              rotate_left
              · rintro w' ⟨s0, s1⟩
                go_simp
                with_reducible rfl
              rotate_left
              · simp only [Act.put, List.setIfInBounds_toArray, List.set_cons_zero, List.set_cons_succ]
                rfl
              refine pure_ (i := 15) (N := some 64) (v := ?_) (a' := ?_) #[true, true, true, true, true, true, true, true, true, true, true, true, false, true, true, true, false, false, false, false, false, false, false, false, false, false] rfl rfl (by kernel_rfl) (fun _ _ _ h => h) (Or.inl ⟨by rfl, ?_⟩) ?_ ?_
              rotate_left
              · intro w'
                go_simp
                with_reducible rfl
              rotate_left
              · simp only [Act.put, List.setIfInBounds_toArray, List.set_cons_zero, List.set_cons_succ]
                rfl
              refine pure_ (i := 18) (N := some 67) (v := ?_) (a' := ?_) #[true, true, true, true, true, true, true, true, true, true, true, true, false, true, true, true, false, false, true, false, false, false, false, false, false, false] rfl rfl (by kernel_rfl) (fun _ _ _ h => h) (Or.inl ⟨by rfl, ?_⟩) ?_ ?_
              rotate_left
              · intro w'
                go_simp
                with_reducible rfl
              rotate_left
              · simp only [Act.put, List.setIfInBounds_toArray, List.set_cons_zero, List.set_cons_succ]
                rfl
              refine pure_ (i := 20) (N := some 69) (v := ?_) (a' := ?_) #[true, true, true, true, true, true, true, true, true, true, true, true, false, true, true, true, false, false, true, false, true, false, false, false, false, false] rfl rfl (by kernel_rfl) (fun _ _ _ h => h) (Or.inl ⟨by rfl, ?_⟩) ?_ ?_
              rotate_left
              · intro w'
                go_simp
                with_reducible rfl
              rotate_left
              · simp only [Act.put, List.setIfInBounds_toArray, List.set_cons_zero, List.set_cons_succ]
                rfl
              refine one_ (i := 12) (N := some 61) #[true, true, true, true, true, true, true, true, true, true, true, true, true, true, true, true, false, false, true, false, true, false, false, false, false, false] rfl rfl (by kernel_rfl) (by decide) (fun K hK => ?_)
              refine call_ 15 #[.int .u8 p, .slice A l.length c] (by rfl) rfl (by first | (go_simp; done) | (go_simp; rfl)) ?_
              refine (digest_Tagged.calls p HP.out A c l _ (Kd.C_below HRL.out Bx1.out) (HG.out.below Bx1.out) (fun s hs => by have := HLS.out s hs; omega)).mono ?_
              rintro e x2 ⟨rfl, hb⟩
              rw [sha_tag p HP.out l HL2.out, ← HX.out]
              have Bx2 : Aside0 (Below w.heap.size w x2) := ⟨below_step Bx1.out hb⟩
              have Px2 : Aside0 (x2.heap[g3]? = some (.cells #[.int .u8 p, .int .u8 q] 34 (0, 0))) := ⟨blk_below Px1.out hb⟩
              clear hb
              refine ⟨_, rfl, hK.out _ _ ⟨(blk_cell Px2.out 0).trans rfl, (blk_cell Px2.out 1).trans rfl⟩ (fun hHeld => ?_)⟩
              clear hK K Bx1 Px1
              refine norm_ (a' := ?_) ?_ ?_
              rotate_left
              · show Act.put _ (some 61) _ = _
                simp only [Act.put, List.setIfInBounds_toArray, List.set_cons_zero, List.set_cons_succ]
                rfl
              refine one_ (i := 16) (N := some 65) #[true, true, true, true, true, true, true, true, true, true, true, true, true, true, true, true, true, false, true, false, true, false, false, false, false, false] rfl rfl (by kernel_rfl) (by decide) (fun K hK => ?_)
              refine call_ 15 #[.int .u8 q, .slice A' m.length c'] (by rfl) rfl (by first | (go_simp; done) | (go_simp; rfl)) ?_
              refine (digest_Tagged.calls q HQ.out A' c' m _ (Kd.C_below HRM.out Bx2.out) (HG.out.below Bx2.out) (fun s hs => by have := HMS.out s hs; omega)).mono ?_
              rintro e x3 ⟨rfl, hb⟩
              rw [sha_tag q HQ.out m HM2.out, ← HY.out]
              have Bx3 : Aside0 (Below w.heap.size w x3) := ⟨below_step Bx2.out hb⟩
              have Px3 : Aside0 (x3.heap[g3]? = some (.cells #[.int .u8 p, .int .u8 q] 34 (0, 0))) := ⟨blk_below Px2.out hb⟩
              clear hb
              refine ⟨_, rfl, hK.out _ _ ⟨(blk_cell Px3.out 0).trans rfl, (blk_cell Px3.out 1).trans rfl⟩ (fun hHeld => ?_)⟩
              clear hK K Bx2 Px2
              refine norm_ (a' := ?_) ?_ ?_
              rotate_left
              · show Act.put _ (some 65) _ = _
                simp only [Act.put, List.setIfInBounds_toArray, List.set_cons_zero, List.set_cons_succ]
                rfl
              refine pure_ (i := 17) (N := some 66) (v := ?_) (a' := ?_) #[true, true, true, true, true, true, true, true, true, true, true, true, true, true, true, true, true, true, true, false, true, false, false, false, false, false] rfl rfl (by kernel_rfl) (fun _ _ _ h => h) (Or.inl ⟨by rfl, ?_⟩) ?_ ?_
              rotate_left
              · intro w'
                go_simp
                with_reducible rfl
              rotate_left
              · simp only [Act.put, List.setIfInBounds_toArray, List.set_cons_zero, List.set_cons_succ]
                rfl
              refine one_ (i := 19) (N := some 68) #[true, true, true, true, true, true, true, true, true, true, true, true, true, true, true, true, true, true, true, true, true, false, false, false, false, false] rfl rfl (by kernel_rfl) (by decide) (fun K hK => ?_)
              refine call_ 10 #[.string X] (by rfl) rfl (by first | (go_simp; done) | (go_simp; rfl)) ?_
              refine (digest_Sum.calls X _ (HG.out.below Bx3.out) (by rw [HX.out, strOfNums_size, tagB_len]; have := HL2.out; omega)).mono ?_
              rintro e x4 ⟨rfl, hb⟩
              have Bx4 : Aside0 (Below w.heap.size w x4) := ⟨below_step Bx3.out hb⟩
              have Px4 : Aside0 (x4.heap[g3]? = some (.cells #[.int .u8 p, .int .u8 q] 34 (0, 0))) := ⟨blk_below Px3.out hb⟩
              clear hb
              refine ⟨_, rfl, hK.out _ _ ⟨(blk_cell Px4.out 0).trans rfl, (blk_cell Px4.out 1).trans rfl⟩ (fun hHeld => ?_)⟩
              clear hK K Bx3 Px3
              refine norm_ (a' := ?_) ?_ ?_
              rotate_left
              · show Act.put _ (some 68) _ = _
                simp only [Act.put, List.setIfInBounds_toArray, List.set_cons_zero, List.set_cons_succ]
                rfl
              refine one_ (i := 21) (N := some 70) #[true, true, true, true, true, true, true, true, true, true, true, true, true, true, true, true, true, true, true, true, true, true, false, false, false, false] rfl rfl (by kernel_rfl) (by decide) (fun K hK => ?_)
              refine call_ 10 #[.string Y] (by rfl) rfl (by first | (go_simp; done) | (go_simp; rfl)) ?_
              refine (digest_Sum.calls Y _ (HG.out.below Bx4.out) (by rw [HY.out, strOfNums_size, tagB_len]; have := HM2.out; omega)).mono ?_
              rintro e x5 ⟨rfl, hb⟩
              have Bx5 : Aside0 (Below w.heap.size w x5) := ⟨below_step Bx4.out hb⟩
              have Px5 : Aside0 (x5.heap[g3]? = some (.cells #[.int .u8 p, .int .u8 q] 34 (0, 0))) := ⟨blk_below Px4.out hb⟩
              clear hb
              refine ⟨_, rfl, hK.out _ _ ⟨(blk_cell Px5.out 0).trans rfl, (blk_cell Px5.out 1).trans rfl⟩ (fun hHeld => ?_)⟩
              clear hK K Bx4 Px4
              refine norm_ (a' := ?_) ?_ ?_
              rotate_left
              · show Act.put _ (some 70) _ = _
                simp only [Act.put, List.setIfInBounds_toArray, List.set_cons_zero, List.set_cons_succ]
                rfl
              refine pure_ (i := 22) (N := some 71) (v := ?_) (a' := ?_) #[true, true, true, true, true, true, true, true, true, true, true, true, true, true, true, true, true, true, true, true, true, true, true, false, false, false] rfl rfl (by kernel_rfl) (fun _ _ _ h => h) (Or.inl ⟨by rfl, ?_⟩) ?_ ?_
              rotate_left
              · intro w'
                go_simp
                with_reducible rfl
              rotate_left
              · simp only [Act.put, List.setIfInBounds_toArray, List.set_cons_zero, List.set_cons_succ]
                rfl
              refine pure_ (i := 23) (N := some 72) (v := ?_) (a' := ?_) #[true, true, true, true, true, true, true, true, true, true, true, true, true, true, true, true, true, true, true, true, true, true, true, true, false, false] rfl rfl (by kernel_rfl) (fun _ _ _ h => h) (Or.inl ⟨by rfl, ?_⟩) ?_ ?_
              rotate_left
              · intro w'
                go_simp
                with_reducible rfl
              rotate_left
              · simp only [Act.put, List.setIfInBounds_toArray, List.set_cons_zero, List.set_cons_succ]
                rfl
              refine pure_ (i := 24) (N := some 73) (v := ?_) (a' := ?_) #[true, true, true, true, true, true, true, true, true, true, true, true, true, true, true, true, true, true, true, true, true, true, true, true, true, false] rfl rfl (by kernel_rfl) (fun _ _ _ h => h) (Or.inl ⟨by rfl, ?_⟩) ?_ ?_
              rotate_left
              · intro w'
                go_simp
                with_reducible rfl
              rotate_left
              · simp only [Act.put, List.setIfInBounds_toArray, List.set_cons_zero, List.set_cons_succ]
                rfl
              refine pure_ (i := 25) (N := some 6) (v := ?_) (a' := ?_) #[true, true, true, true, true, true, true, true, true, true, true, true, true, true, true, true, true, true, true, true, true, true, true, true, true, true] rfl rfl (by kernel_rfl) (fun _ _ _ h => h) (Or.inl ⟨by rfl, ?_⟩) ?_ ?_
              rotate_left
              · intro w'
                go_simp
                with_reducible rfl
              rotate_left
              · simp only [Act.put, List.setIfInBounds_toArray, List.set_cons_zero, List.set_cons_succ]
                rfl
              refine done_ (by kernel_rfl) ?_
              go_wp2
              go_ret
              exact ⟨by first | rfl | simp, Bx5.out⟩

  · have q0 : (p == q) = false := beq_eq_false_iff_ne.mpr hpq
    have HPQ := Aside0.mk hpq
    clear hpq
    go_wp2_with (fail)
    go_loopg [9, 10] (l.length + 1) (fun kq v9 v10 w' => ∃ (n : Nat) (sb : Bool), v10 = .int .i64 (n : Int) ∧ v9 = .bool sb ∧ Aside0 (n + kq = l.length + 1 ∧ n ≤ l.length) ∧ Aside0 (sb = true ↔ (p = q ∧ l.length = m.length ∧ l.take n = m.take n)) ∧ Aside0 (w'.heap[g3]? = some (.cells #[.int .u8 p, .int .u8 q] 34 (0, 0))) ∧ Aside0 (Below w.heap.size w w'))
    case atStart => exact ⟨0, false, rfl, rfl, ⟨by omega, by omega⟩, ⟨fun h => by simp at h, fun h => absurd h.1 HPQ.out⟩, P3, B3⟩
    case round =>
      clear P3 B3 cp cq
      obtain ⟨n, sb, rfl, rfl, HN, HSB, P, B⟩ := hrel
      cases gk with
      | zero => have := HN.out; omega
      | succ k1 =>
        by_cases hgo : n < l.length ∧ sb = true
        · obtain ⟨hn, rfl⟩ := hgo
          have hlt : ((n : Int) < (l.length : Int)) = True := eq_true (by omega)
          have hsb := HSB.out.1 rfl
          obtain ⟨ad, ea, h0⟩ := Kd.at_string HRL.out (n : Int) (by omega) (by omega)
          obtain ⟨bd, eb, h1⟩ := Kd.at_string HRM.out (n : Int) (by omega) (by omega)
          subst ea eb
          have c0 := below_cell h0 B.out
          have c1 := below_cell h1 B.out
          rw [Int.toNat_natCast] at c0 c1
          have hlm : ((n : Int) < (m.length : Int)) = True := eq_true (by have := hsb.2.1; omega)
          obtain ⟨s, ys⟩ : ∃ s : ByteArray, s = rdOf ByteArray.empty l (n : Int) := ⟨_, rfl⟩
          obtain ⟨s', ys'⟩ : ∃ s : ByteArray, s = rdOf ByteArray.empty m (n : Int) := ⟨_, rfl⟩
          rw [← ys] at c0
          rw [← ys'] at c1
          have HE : Aside0 (s = s' ↔ l.take (n + 1) = m.take (n + 1)) := ⟨by
            have e1 : l.take (n + 1) = l.take n ++ [s] := by
              rw [List.take_add_one, List.getElem?_eq_getElem hn, ys]
              simp [rdOf, List.getElem?_eq_getElem hn]
            have e2 : m.take (n + 1) = m.take n ++ [s'] := by
              rw [List.take_add_one, List.getElem?_eq_getElem (by omega), ys']
              simp [rdOf, List.getElem?_eq_getElem (show n < m.length by omega)]
            rw [e1, e2, hsb.2.2]
            simp⟩
          have HSQ := Aside0.mk hsb
          clear h0 h1 ys ys' hsb
          by_cases hss : s = s'
          · subst hss
            go_wp2_with (fail)
            go_quiet (fail)
            go_wp2
            go_roundg k1
            case measure => have := HN.out; omega
            case rel => exact ⟨n + 1, true, by have hm := Kd.C_max HRL.out; rw [IntWalk.wrap64_in _ (by omega)]; rfl, by first | rfl | simp, ⟨by have := HN.out; omega, by omega⟩, ⟨fun _ => ⟨HSQ.out.1, HSQ.out.2.1, HE.out.1 (by first | rfl | trivial)⟩, fun _ => rfl⟩, P, ⟨pw_below_drewN B.out _⟩⟩
          · have hs2 : (s.toList == s'.toList) = false := beq_eq_false_iff_ne.mpr (fun h => hss (toList_inj h))
            have hs3 : (s = s') = False := eq_false hss
            have HSS := Aside0.mk hss
            clear hss
            go_wp2_with (fail)
            go_quiet (fail)
            go_wp2
            go_roundg k1
            case measure => have := HN.out; omega
            case rel => exact ⟨n + 1, false, by have hm := Kd.C_max HRL.out; rw [IntWalk.wrap64_in _ (by omega)]; rfl, by first | rfl | simp, ⟨by have := HN.out; omega, by omega⟩, ⟨fun h => by simp at h, fun h => absurd (HE.out.2 h.2.2) HSS.out⟩, P, ⟨pw_below_drewN B.out _⟩⟩
        · have HSB2 : Aside0 (sb = true ↔ p = q ∧ l = m) := ⟨by
            constructor
            · intro h
              have h1 := HSB.out.1 h
              have hn : n = l.length := by have := HN.out; have : ¬ n < l.length := fun h2 => hgo ⟨h2, h⟩; omega
              have h2 := h1.2.2
              rw [hn, List.take_length, h1.2.1, List.take_length] at h2
              exact ⟨h1.1, h2⟩
            · rintro ⟨rfl, rfl⟩
              exact HSB.out.2 ⟨rfl, rfl, rfl⟩⟩
          have hcond : ((decide ((n : Int) < (l.length : Int)) && sb) = false) := by
            cases sb
            · simp
            · have : ¬ n < l.length := fun h2 => hgo ⟨h2, rfl⟩
              simp
              omega
          have HXY : Aside0 (X = Y ↔ sb = true) := ⟨by
            rw [HX.out, HY.out, HSB2.out]
            exact tag_inj HP.out HQ.out l m (fun s hs => by have := HLS.out s hs; omega) (fun s hs => by have := HMS.out s hs; omega)⟩
          have cp := (blk_cell P.out 0).trans rfl
          have cq := (blk_cell P.out 1).trans rfl
          clear hgo
          by_cases hn : n < l.length
          · have hlt : ((n : Int) < (l.length : Int)) = True := eq_true (by omega)
            obtain rfl : sb = false := by simpa [hn] using hcond
            clear hcond
            have hxy : (X.toList == Y.toList) = false := beq_eq_false_iff_ne.mpr (fun h => Bool.noConfusion (HXY.out.1 (toList_inj h)))
            clear HSB HSB2 HXY
            go_upto_region 7 with (fail)
            have Bx0 : Aside0 (Below w.heap.size w wr.drew) := ⟨below_drew1 B.out⟩
            have Px0 : Aside0 (wr.drew.heap[g3]? = some (.cells #[.int .u8 p, .int .u8 q] 34 (0, 0))) := ⟨P.out⟩
            refine start_ (n := 26) (S := fun w' => w'.cell? ⟨g3, 0, none⟩ = some (.int .u8 p) ∧ w'.cell? ⟨g3, 1, none⟩ = some (.int .u8 q)) (ds := []) #[false, false, false, false, false, false, false, false, false, false, false, false, false, false, false, false, false, false, false, false, false, false, false, false, false, false] (by kernel_rfl) rfl rfl ⟨cp, cq⟩ (fun hHeld => ?_)
            refine one_ (i := 0) (N := some 49) #[true, false, false, false, false, false, false, false, false, false, false, false, false, false, false, false, false, false, false, false, false, false, false, false, false, false] rfl rfl (by kernel_rfl) (by decide) (fun K hK => ?_)
            refine call_ 9 #[] (by rfl) rfl (by first | (go_simp; done) | (go_simp; rfl)) ?_
            refine (stowagelaw03_awake.calls _ (HG.out.below Bx0.out)).mono ?_
            rintro e x1 ⟨rfl, hb⟩
            have Bx1 : Aside0 (Below w.heap.size w x1) := ⟨below_step Bx0.out hb⟩
            have Px1 : Aside0 (x1.heap[g3]? = some (.cells #[.int .u8 p, .int .u8 q] 34 (0, 0))) := ⟨blk_below Px0.out hb⟩
            clear hb
            refine ⟨_, rfl, hK.out _ _ ⟨(blk_cell Px1.out 0).trans rfl, (blk_cell Px1.out 1).trans rfl⟩ (fun hHeld => ?_)⟩
            clear hK K Bx0 Px0
            refine norm_ (a' := ?_) ?_ ?_
            rotate_left
            · show Act.put _ (some 49) _ = _
              simp only [Act.put, List.setIfInBounds_toArray, List.set_cons_zero, List.set_cons_succ]
              rfl
            refine pure_ (i := 1) (N := some 50) (v := ?_) (a' := ?_) #[true, true, false, false, false, false, false, false, false, false, false, false, false, false, false, false, false, false, false, false, false, false, false, false, false, false] rfl rfl (by kernel_rfl) (fun _ _ _ h => h) (Or.inl ⟨by rfl, ?_⟩) ?_ ?_
            rotate_left
            · intro w'
              go_simp
              with_reducible rfl
            rotate_left
            · simp only [Act.put, List.setIfInBounds_toArray, List.set_cons_zero, List.set_cons_succ]
              rfl
            refine pure_ (i := 2) (N := some 51) (v := ?_) (a' := ?_) #[true, true, true, false, false, false, false, false, false, false, false, false, false, false, false, false, false, false, false, false, false, false, false, false, false, false] rfl rfl (by kernel_rfl) (fun _ _ _ h => h) (Or.inl ⟨by rfl, ?_⟩) ?_ ?_
            rotate_left
            · intro w'
              go_simp
              with_reducible rfl
            rotate_left
            · simp only [Act.put, List.setIfInBounds_toArray, List.set_cons_zero, List.set_cons_succ]
              rfl
            refine pure_ (i := 3) (N := some 52) (v := ?_) (a' := ?_) #[true, true, true, true, false, false, false, false, false, false, false, false, false, false, false, false, false, false, false, false, false, false, false, false, false, false] rfl rfl (by kernel_rfl) (fun _ _ _ h => h) (Or.inl ⟨by rfl, ?_⟩) ?_ ?_
            rotate_left
            · intro w'
              go_simp
              with_reducible rfl
            rotate_left
            · simp only [Act.put, List.setIfInBounds_toArray, List.set_cons_zero, List.set_cons_succ]
              rfl
            refine pure_ (i := 4) (N := some 53) (v := ?_) (a' := ?_) #[true, true, true, true, true, false, false, false, false, false, false, false, false, false, false, false, false, false, false, false, false, false, false, false, false, false] rfl rfl (by kernel_rfl) (fun _ _ _ h => h) (Or.inl ⟨by rfl, ?_⟩) ?_ ?_
            rotate_left
            · intro w'
              go_simp
              with_reducible rfl
            rotate_left
            · simp only [Act.put, List.setIfInBounds_toArray, List.set_cons_zero, List.set_cons_succ]
              rfl
            refine pure_ (i := 5) (N := some 54) (v := ?_) (a' := ?_) #[true, true, true, true, true, true, false, false, false, false, false, false, false, false, false, false, false, false, false, false, false, false, false, false, false, false] rfl rfl (by kernel_rfl) (fun _ _ _ h => h) (Or.inl ⟨by rfl, ?_⟩) ?_ ?_
            rotate_left
            · intro w'
              go_simp
              with_reducible rfl
            rotate_left
            · simp only [Act.put, List.setIfInBounds_toArray, List.set_cons_zero, List.set_cons_succ]
              rfl
            refine pure_ (i := 6) (N := some 55) (v := ?_) (a' := ?_) #[true, true, true, true, true, true, true, false, false, false, false, false, false, false, false, false, false, false, false, false, false, false, false, false, false, false] rfl rfl (by kernel_rfl) (fun _ _ _ h => h) (Or.inl ⟨by rfl, ?_⟩) ?_ ?_
            rotate_left
            · intro w'
              go_simp
              with_reducible rfl
            rotate_left
            · simp only [Act.put, List.setIfInBounds_toArray, List.set_cons_zero, List.set_cons_succ]
              rfl
            refine pure_ (i := 7) (N := some 56) (v := ?_) (a' := ?_) #[true, true, true, true, true, true, true, true, false, false, false, false, false, false, false, false, false, false, false, false, false, false, false, false, false, false] rfl rfl (by kernel_rfl) (fun _ _ _ h => h) (Or.inl ⟨by rfl, ?_⟩) ?_ ?_
            rotate_left
            · intro w'
              go_simp
              with_reducible rfl
            rotate_left
            · simp only [Act.put, List.setIfInBounds_toArray, List.set_cons_zero, List.set_cons_succ]
              rfl
            refine pure_ (i := 8) (N := some 57) (v := ?_) (a' := ?_) #[true, true, true, true, true, true, true, true, true, false, false, false, false, false, false, false, false, false, false, false, false, false, false, false, false, false] rfl rfl (by kernel_rfl) (fun _ _ _ h => h) (Or.inl ⟨by rfl, ?_⟩) ?_ ?_
            rotate_left
            · intro w'
              go_simp
              with_reducible rfl
            rotate_left
            · simp only [Act.put, List.setIfInBounds_toArray, List.set_cons_zero, List.set_cons_succ]
              rfl
            refine pure_ (i := 9) (N := some 58) (v := ?_) (a' := ?_) #[true, true, true, true, true, true, true, true, true, true, false, false, false, false, false, false, false, false, false, false, false, false, false, false, false, false] rfl rfl (by kernel_rfl) (fun _ _ _ h => h) (Or.inl ⟨by rfl, ?_⟩) ?_ ?_
            rotate_left
            · intro w'
              go_simp
              with_reducible rfl
            rotate_left
            · simp only [Act.put, List.setIfInBounds_toArray, List.set_cons_zero, List.set_cons_succ]
              rfl
            refine take_ (i := 10) (N := some 59) (v := ?_) (a' := ?_) #[true, true, true, true, true, true, true, true, true, true, true, false, false, false, false, false, false, false, false, false, false, false, false, false, false, false] rfl rfl (by kernel_rfl) (fun _ _ _ h => h) (Or.inl ⟨by rfl, ?_⟩) (by first | exact hHeld | assumption) ?_ ?_
            rotate_left
            · rintro w' ⟨s0, s1⟩
              go_simp
              with_reducible rfl
            rotate_left
            · simp only [Act.put, List.setIfInBounds_toArray, List.set_cons_zero, List.set_cons_succ]
              rfl
            refine pure_ (i := 11) (N := some 60) (v := ?_) (a' := ?_) #[true, true, true, true, true, true, true, true, true, true, true, true, false, false, false, false, false, false, false, false, false, false, false, false, false, false] rfl rfl (by kernel_rfl) (fun _ _ _ h => h) (Or.inl ⟨by rfl, ?_⟩) ?_ ?_
            rotate_left
            · intro w'
              go_simp
              with_reducible rfl
            rotate_left
            · simp only [Act.put, List.setIfInBounds_toArray, List.set_cons_zero, List.set_cons_succ]
              rfl
            refine pure_ (i := 13) (N := some 62) (v := ?_) (a' := ?_) #[true, true, true, true, true, true, true, true, true, true, true, true, false, true, false, false, false, false, false, false, false, false, false, false, false, false] rfl rfl (by kernel_rfl) (fun _ _ _ h => h) (Or.inl ⟨by rfl, ?_⟩) ?_ ?_
            rotate_left
            · intro w'
              go_simp
              with_reducible rfl
            rotate_left
            · simp only [Act.put, List.setIfInBounds_toArray, List.set_cons_zero, List.set_cons_succ]
              rfl
            refine take_ (i := 14) (N := some 63) (v := ?_) (a' := ?_) #[true, true, true, true, true, true, true, true, true, true, true, true, false, true, true, false, false, false, false, false, false, false, false, false, false, false] rfl rfl (by kernel_rfl) (fun _ _ _ h => h) (Or.inl ⟨by rfl, ?_⟩) (by first | exact hHeld | assumption) ?_ ?_
            rotate_left
            · rintro w' ⟨s0, s1⟩
              go_simp
              with_reducible rfl
            rotate_left
            · simp only [Act.put, List.setIfInBounds_toArray, List.set_cons_zero, List.set_cons_succ]
              rfl
            refine pure_ (i := 15) (N := some 64) (v := ?_) (a' := ?_) #[true, true, true, true, true, true, true, true, true, true, true, true, false, true, true, true, false, false, false, false, false, false, false, false, false, false] rfl rfl (by kernel_rfl) (fun _ _ _ h => h) (Or.inl ⟨by rfl, ?_⟩) ?_ ?_
            rotate_left
            · intro w'
              go_simp
              with_reducible rfl
            rotate_left
            · simp only [Act.put, List.setIfInBounds_toArray, List.set_cons_zero, List.set_cons_succ]
              rfl
            refine pure_ (i := 18) (N := some 67) (v := ?_) (a' := ?_) #[true, true, true, true, true, true, true, true, true, true, true, true, false, true, true, true, false, false, true, false, false, false, false, false, false, false] rfl rfl (by kernel_rfl) (fun _ _ _ h => h) (Or.inl ⟨by rfl, ?_⟩) ?_ ?_
            rotate_left
            · intro w'
              go_simp
              with_reducible rfl
            rotate_left
            · simp only [Act.put, List.setIfInBounds_toArray, List.set_cons_zero, List.set_cons_succ]
              rfl
            refine pure_ (i := 20) (N := some 69) (v := ?_) (a' := ?_) #[true, true, true, true, true, true, true, true, true, true, true, true, false, true, true, true, false, false, true, false, true, false, false, false, false, false] rfl rfl (by kernel_rfl) (fun _ _ _ h => h) (Or.inl ⟨by rfl, ?_⟩) ?_ ?_
            rotate_left
            · intro w'
              go_simp
              with_reducible rfl
            rotate_left
            · simp only [Act.put, List.setIfInBounds_toArray, List.set_cons_zero, List.set_cons_succ]
              rfl
            refine one_ (i := 12) (N := some 61) #[true, true, true, true, true, true, true, true, true, true, true, true, true, true, true, true, false, false, true, false, true, false, false, false, false, false] rfl rfl (by kernel_rfl) (by decide) (fun K hK => ?_)
            refine call_ 15 #[.int .u8 p, .slice A l.length c] (by rfl) rfl (by first | (go_simp; done) | (go_simp; rfl)) ?_
            refine (digest_Tagged.calls p HP.out A c l _ (Kd.C_below HRL.out Bx1.out) (HG.out.below Bx1.out) (fun s hs => by have := HLS.out s hs; omega)).mono ?_
            rintro e x2 ⟨rfl, hb⟩
            rw [sha_tag p HP.out l HL2.out, ← HX.out]
            have Bx2 : Aside0 (Below w.heap.size w x2) := ⟨below_step Bx1.out hb⟩
            have Px2 : Aside0 (x2.heap[g3]? = some (.cells #[.int .u8 p, .int .u8 q] 34 (0, 0))) := ⟨blk_below Px1.out hb⟩
            clear hb
            refine ⟨_, rfl, hK.out _ _ ⟨(blk_cell Px2.out 0).trans rfl, (blk_cell Px2.out 1).trans rfl⟩ (fun hHeld => ?_)⟩
            clear hK K Bx1 Px1
            refine norm_ (a' := ?_) ?_ ?_
            rotate_left
            · show Act.put _ (some 61) _ = _
              simp only [Act.put, List.setIfInBounds_toArray, List.set_cons_zero, List.set_cons_succ]
              rfl
            refine one_ (i := 16) (N := some 65) #[true, true, true, true, true, true, true, true, true, true, true, true, true, true, true, true, true, false, true, false, true, false, false, false, false, false] rfl rfl (by kernel_rfl) (by decide) (fun K hK => ?_)
            refine call_ 15 #[.int .u8 q, .slice A' m.length c'] (by rfl) rfl (by first | (go_simp; done) | (go_simp; rfl)) ?_
            refine (digest_Tagged.calls q HQ.out A' c' m _ (Kd.C_below HRM.out Bx2.out) (HG.out.below Bx2.out) (fun s hs => by have := HMS.out s hs; omega)).mono ?_
            rintro e x3 ⟨rfl, hb⟩
            rw [sha_tag q HQ.out m HM2.out, ← HY.out]
            have Bx3 : Aside0 (Below w.heap.size w x3) := ⟨below_step Bx2.out hb⟩
            have Px3 : Aside0 (x3.heap[g3]? = some (.cells #[.int .u8 p, .int .u8 q] 34 (0, 0))) := ⟨blk_below Px2.out hb⟩
            clear hb
            refine ⟨_, rfl, hK.out _ _ ⟨(blk_cell Px3.out 0).trans rfl, (blk_cell Px3.out 1).trans rfl⟩ (fun hHeld => ?_)⟩
            clear hK K Bx2 Px2
            refine norm_ (a' := ?_) ?_ ?_
            rotate_left
            · show Act.put _ (some 65) _ = _
              simp only [Act.put, List.setIfInBounds_toArray, List.set_cons_zero, List.set_cons_succ]
              rfl
            refine pure_ (i := 17) (N := some 66) (v := ?_) (a' := ?_) #[true, true, true, true, true, true, true, true, true, true, true, true, true, true, true, true, true, true, true, false, true, false, false, false, false, false] rfl rfl (by kernel_rfl) (fun _ _ _ h => h) (Or.inl ⟨by rfl, ?_⟩) ?_ ?_
            rotate_left
            · intro w'
              go_simp
              with_reducible rfl
            rotate_left
            · simp only [Act.put, List.setIfInBounds_toArray, List.set_cons_zero, List.set_cons_succ]
              rfl
            refine one_ (i := 19) (N := some 68) #[true, true, true, true, true, true, true, true, true, true, true, true, true, true, true, true, true, true, true, true, true, false, false, false, false, false] rfl rfl (by kernel_rfl) (by decide) (fun K hK => ?_)
            refine call_ 10 #[.string X] (by rfl) rfl (by first | (go_simp; done) | (go_simp; rfl)) ?_
            refine (digest_Sum.calls X _ (HG.out.below Bx3.out) (by rw [HX.out, strOfNums_size, tagB_len]; have := HL2.out; omega)).mono ?_
            rintro e x4 ⟨rfl, hb⟩
            have Bx4 : Aside0 (Below w.heap.size w x4) := ⟨below_step Bx3.out hb⟩
            have Px4 : Aside0 (x4.heap[g3]? = some (.cells #[.int .u8 p, .int .u8 q] 34 (0, 0))) := ⟨blk_below Px3.out hb⟩
            clear hb
            refine ⟨_, rfl, hK.out _ _ ⟨(blk_cell Px4.out 0).trans rfl, (blk_cell Px4.out 1).trans rfl⟩ (fun hHeld => ?_)⟩
            clear hK K Bx3 Px3
            refine norm_ (a' := ?_) ?_ ?_
            rotate_left
            · show Act.put _ (some 68) _ = _
              simp only [Act.put, List.setIfInBounds_toArray, List.set_cons_zero, List.set_cons_succ]
              rfl
            refine one_ (i := 21) (N := some 70) #[true, true, true, true, true, true, true, true, true, true, true, true, true, true, true, true, true, true, true, true, true, true, false, false, false, false] rfl rfl (by kernel_rfl) (by decide) (fun K hK => ?_)
            refine call_ 10 #[.string Y] (by rfl) rfl (by first | (go_simp; done) | (go_simp; rfl)) ?_
            refine (digest_Sum.calls Y _ (HG.out.below Bx4.out) (by rw [HY.out, strOfNums_size, tagB_len]; have := HM2.out; omega)).mono ?_
            rintro e x5 ⟨rfl, hb⟩
            have Bx5 : Aside0 (Below w.heap.size w x5) := ⟨below_step Bx4.out hb⟩
            have Px5 : Aside0 (x5.heap[g3]? = some (.cells #[.int .u8 p, .int .u8 q] 34 (0, 0))) := ⟨blk_below Px4.out hb⟩
            clear hb
            refine ⟨_, rfl, hK.out _ _ ⟨(blk_cell Px5.out 0).trans rfl, (blk_cell Px5.out 1).trans rfl⟩ (fun hHeld => ?_)⟩
            clear hK K Bx4 Px4
            refine norm_ (a' := ?_) ?_ ?_
            rotate_left
            · show Act.put _ (some 70) _ = _
              simp only [Act.put, List.setIfInBounds_toArray, List.set_cons_zero, List.set_cons_succ]
              rfl
            refine pure_ (i := 22) (N := some 71) (v := ?_) (a' := ?_) #[true, true, true, true, true, true, true, true, true, true, true, true, true, true, true, true, true, true, true, true, true, true, true, false, false, false] rfl rfl (by kernel_rfl) (fun _ _ _ h => h) (Or.inl ⟨by rfl, ?_⟩) ?_ ?_
            rotate_left
            · intro w'
              go_simp
              with_reducible rfl
            rotate_left
            · simp only [Act.put, List.setIfInBounds_toArray, List.set_cons_zero, List.set_cons_succ]
              rfl
            refine pure_ (i := 23) (N := some 72) (v := ?_) (a' := ?_) #[true, true, true, true, true, true, true, true, true, true, true, true, true, true, true, true, true, true, true, true, true, true, true, true, false, false] rfl rfl (by kernel_rfl) (fun _ _ _ h => h) (Or.inl ⟨by rfl, ?_⟩) ?_ ?_
            rotate_left
            · intro w'
              go_simp
              with_reducible rfl
            rotate_left
            · simp only [Act.put, List.setIfInBounds_toArray, List.set_cons_zero, List.set_cons_succ]
              rfl
            refine pure_ (i := 24) (N := some 73) (v := ?_) (a' := ?_) #[true, true, true, true, true, true, true, true, true, true, true, true, true, true, true, true, true, true, true, true, true, true, true, true, true, false] rfl rfl (by kernel_rfl) (fun _ _ _ h => h) (Or.inl ⟨by rfl, ?_⟩) ?_ ?_
            rotate_left
            · intro w'
              go_simp
              with_reducible rfl
            rotate_left
            · simp only [Act.put, List.setIfInBounds_toArray, List.set_cons_zero, List.set_cons_succ]
              rfl
            refine pure_ (i := 25) (N := some 6) (v := ?_) (a' := ?_) #[true, true, true, true, true, true, true, true, true, true, true, true, true, true, true, true, true, true, true, true, true, true, true, true, true, true] rfl rfl (by kernel_rfl) (fun _ _ _ h => h) (Or.inl ⟨by rfl, ?_⟩) ?_ ?_
            rotate_left
            · intro w'
              go_simp
              with_reducible rfl
            rotate_left
            · simp only [Act.put, List.setIfInBounds_toArray, List.set_cons_zero, List.set_cons_succ]
              rfl
            refine done_ (by kernel_rfl) ?_
            go_wp2
            go_ret
            exact ⟨by first | rfl | simp, Bx5.out⟩
          · have hlt : ((n : Int) < (l.length : Int)) = False := eq_false (by omega)
            clear hcond
            have hxy : (X.toList == Y.toList) = sb := by
              cases sb
              · exact beq_eq_false_iff_ne.mpr (fun h => Bool.noConfusion (HXY.out.1 (toList_inj h)))
              · exact beq_iff_eq.mpr (by rw [HXY.out.2 rfl])
            clear HSB HSB2 HXY
            go_upto_region 7 with (fail)
            have Bx0 : Aside0 (Below w.heap.size w wr.drew) := ⟨below_drew1 B.out⟩
            have Px0 : Aside0 (wr.drew.heap[g3]? = some (.cells #[.int .u8 p, .int .u8 q] 34 (0, 0))) := ⟨P.out⟩
            refine start_ (n := 26) (S := fun w' => w'.cell? ⟨g3, 0, none⟩ = some (.int .u8 p) ∧ w'.cell? ⟨g3, 1, none⟩ = some (.int .u8 q)) (ds := []) #[false, false, false, false, false, false, false, false, false, false, false, false, false, false, false, false, false, false, false, false, false, false, false, false, false, false] (by kernel_rfl) rfl rfl ⟨cp, cq⟩ (fun hHeld => ?_)
            refine one_ (i := 0) (N := some 49) #[true, false, false, false, false, false, false, false, false, false, false, false, false, false, false, false, false, false, false, false, false, false, false, false, false, false] rfl rfl (by kernel_rfl) (by decide) (fun K hK => ?_)
            refine call_ 9 #[] (by rfl) rfl (by first | (go_simp; done) | (go_simp; rfl)) ?_
            refine (stowagelaw03_awake.calls _ (HG.out.below Bx0.out)).mono ?_
            rintro e x1 ⟨rfl, hb⟩
            have Bx1 : Aside0 (Below w.heap.size w x1) := ⟨below_step Bx0.out hb⟩
            have Px1 : Aside0 (x1.heap[g3]? = some (.cells #[.int .u8 p, .int .u8 q] 34 (0, 0))) := ⟨blk_below Px0.out hb⟩
            clear hb
            refine ⟨_, rfl, hK.out _ _ ⟨(blk_cell Px1.out 0).trans rfl, (blk_cell Px1.out 1).trans rfl⟩ (fun hHeld => ?_)⟩
            clear hK K Bx0 Px0
            refine norm_ (a' := ?_) ?_ ?_
            rotate_left
            · show Act.put _ (some 49) _ = _
              simp only [Act.put, List.setIfInBounds_toArray, List.set_cons_zero, List.set_cons_succ]
              rfl
            refine pure_ (i := 1) (N := some 50) (v := ?_) (a' := ?_) #[true, true, false, false, false, false, false, false, false, false, false, false, false, false, false, false, false, false, false, false, false, false, false, false, false, false] rfl rfl (by kernel_rfl) (fun _ _ _ h => h) (Or.inl ⟨by rfl, ?_⟩) ?_ ?_
            rotate_left
            · intro w'
              go_simp
              with_reducible rfl
            rotate_left
            · simp only [Act.put, List.setIfInBounds_toArray, List.set_cons_zero, List.set_cons_succ]
              rfl
            refine pure_ (i := 2) (N := some 51) (v := ?_) (a' := ?_) #[true, true, true, false, false, false, false, false, false, false, false, false, false, false, false, false, false, false, false, false, false, false, false, false, false, false] rfl rfl (by kernel_rfl) (fun _ _ _ h => h) (Or.inl ⟨by rfl, ?_⟩) ?_ ?_
            rotate_left
            · intro w'
              go_simp
              with_reducible rfl
            rotate_left
            · simp only [Act.put, List.setIfInBounds_toArray, List.set_cons_zero, List.set_cons_succ]
              rfl
            refine pure_ (i := 3) (N := some 52) (v := ?_) (a' := ?_) #[true, true, true, true, false, false, false, false, false, false, false, false, false, false, false, false, false, false, false, false, false, false, false, false, false, false] rfl rfl (by kernel_rfl) (fun _ _ _ h => h) (Or.inl ⟨by rfl, ?_⟩) ?_ ?_
            rotate_left
            · intro w'
              go_simp
              with_reducible rfl
            rotate_left
            · simp only [Act.put, List.setIfInBounds_toArray, List.set_cons_zero, List.set_cons_succ]
              rfl
            refine pure_ (i := 4) (N := some 53) (v := ?_) (a' := ?_) #[true, true, true, true, true, false, false, false, false, false, false, false, false, false, false, false, false, false, false, false, false, false, false, false, false, false] rfl rfl (by kernel_rfl) (fun _ _ _ h => h) (Or.inl ⟨by rfl, ?_⟩) ?_ ?_
            rotate_left
            · intro w'
              go_simp
              with_reducible rfl
            rotate_left
            · simp only [Act.put, List.setIfInBounds_toArray, List.set_cons_zero, List.set_cons_succ]
              rfl
            refine pure_ (i := 5) (N := some 54) (v := ?_) (a' := ?_) #[true, true, true, true, true, true, false, false, false, false, false, false, false, false, false, false, false, false, false, false, false, false, false, false, false, false] rfl rfl (by kernel_rfl) (fun _ _ _ h => h) (Or.inl ⟨by rfl, ?_⟩) ?_ ?_
            rotate_left
            · intro w'
              go_simp
              with_reducible rfl
            rotate_left
            · simp only [Act.put, List.setIfInBounds_toArray, List.set_cons_zero, List.set_cons_succ]
              rfl
            refine pure_ (i := 6) (N := some 55) (v := ?_) (a' := ?_) #[true, true, true, true, true, true, true, false, false, false, false, false, false, false, false, false, false, false, false, false, false, false, false, false, false, false] rfl rfl (by kernel_rfl) (fun _ _ _ h => h) (Or.inl ⟨by rfl, ?_⟩) ?_ ?_
            rotate_left
            · intro w'
              go_simp
              with_reducible rfl
            rotate_left
            · simp only [Act.put, List.setIfInBounds_toArray, List.set_cons_zero, List.set_cons_succ]
              rfl
            refine pure_ (i := 7) (N := some 56) (v := ?_) (a' := ?_) #[true, true, true, true, true, true, true, true, false, false, false, false, false, false, false, false, false, false, false, false, false, false, false, false, false, false] rfl rfl (by kernel_rfl) (fun _ _ _ h => h) (Or.inl ⟨by rfl, ?_⟩) ?_ ?_
            rotate_left
            · intro w'
              go_simp
              with_reducible rfl
            rotate_left
            · simp only [Act.put, List.setIfInBounds_toArray, List.set_cons_zero, List.set_cons_succ]
              rfl
            refine pure_ (i := 8) (N := some 57) (v := ?_) (a' := ?_) #[true, true, true, true, true, true, true, true, true, false, false, false, false, false, false, false, false, false, false, false, false, false, false, false, false, false] rfl rfl (by kernel_rfl) (fun _ _ _ h => h) (Or.inl ⟨by rfl, ?_⟩) ?_ ?_
            rotate_left
            · intro w'
              go_simp
              with_reducible rfl
            rotate_left
            · simp only [Act.put, List.setIfInBounds_toArray, List.set_cons_zero, List.set_cons_succ]
              rfl
            refine pure_ (i := 9) (N := some 58) (v := ?_) (a' := ?_) #[true, true, true, true, true, true, true, true, true, true, false, false, false, false, false, false, false, false, false, false, false, false, false, false, false, false] rfl rfl (by kernel_rfl) (fun _ _ _ h => h) (Or.inl ⟨by rfl, ?_⟩) ?_ ?_
            rotate_left
            · intro w'
              go_simp
              with_reducible rfl
            rotate_left
            · simp only [Act.put, List.setIfInBounds_toArray, List.set_cons_zero, List.set_cons_succ]
              rfl
            refine take_ (i := 10) (N := some 59) (v := ?_) (a' := ?_) #[true, true, true, true, true, true, true, true, true, true, true, false, false, false, false, false, false, false, false, false, false, false, false, false, false, false] rfl rfl (by kernel_rfl) (fun _ _ _ h => h) (Or.inl ⟨by rfl, ?_⟩) (by first | exact hHeld | assumption) ?_ ?_
            rotate_left
            · rintro w' ⟨s0, s1⟩
              go_simp
              with_reducible rfl
            rotate_left
            · simp only [Act.put, List.setIfInBounds_toArray, List.set_cons_zero, List.set_cons_succ]
              rfl
            refine pure_ (i := 11) (N := some 60) (v := ?_) (a' := ?_) #[true, true, true, true, true, true, true, true, true, true, true, true, false, false, false, false, false, false, false, false, false, false, false, false, false, false] rfl rfl (by kernel_rfl) (fun _ _ _ h => h) (Or.inl ⟨by rfl, ?_⟩) ?_ ?_
            rotate_left
            · intro w'
              go_simp
              with_reducible rfl
            rotate_left
            · simp only [Act.put, List.setIfInBounds_toArray, List.set_cons_zero, List.set_cons_succ]
              rfl
            refine pure_ (i := 13) (N := some 62) (v := ?_) (a' := ?_) #[true, true, true, true, true, true, true, true, true, true, true, true, false, true, false, false, false, false, false, false, false, false, false, false, false, false] rfl rfl (by kernel_rfl) (fun _ _ _ h => h) (Or.inl ⟨by rfl, ?_⟩) ?_ ?_
            rotate_left
            · intro w'
              go_simp
              with_reducible rfl
            rotate_left
            · simp only [Act.put, List.setIfInBounds_toArray, List.set_cons_zero, List.set_cons_succ]
              rfl
            refine take_ (i := 14) (N := some 63) (v := ?_) (a' := ?_) #[true, true, true, true, true, true, true, true, true, true, true, true, false, true, true, false, false, false, false, false, false, false, false, false, false, false] rfl rfl (by kernel_rfl) (fun _ _ _ h => h) (Or.inl ⟨by rfl, ?_⟩) (by first | exact hHeld | assumption) ?_ ?_
            rotate_left
            · rintro w' ⟨s0, s1⟩
              go_simp
              with_reducible rfl
            rotate_left
            · simp only [Act.put, List.setIfInBounds_toArray, List.set_cons_zero, List.set_cons_succ]
              rfl
            refine pure_ (i := 15) (N := some 64) (v := ?_) (a' := ?_) #[true, true, true, true, true, true, true, true, true, true, true, true, false, true, true, true, false, false, false, false, false, false, false, false, false, false] rfl rfl (by kernel_rfl) (fun _ _ _ h => h) (Or.inl ⟨by rfl, ?_⟩) ?_ ?_
            rotate_left
            · intro w'
              go_simp
              with_reducible rfl
            rotate_left
            · simp only [Act.put, List.setIfInBounds_toArray, List.set_cons_zero, List.set_cons_succ]
              rfl
            refine pure_ (i := 18) (N := some 67) (v := ?_) (a' := ?_) #[true, true, true, true, true, true, true, true, true, true, true, true, false, true, true, true, false, false, true, false, false, false, false, false, false, false] rfl rfl (by kernel_rfl) (fun _ _ _ h => h) (Or.inl ⟨by rfl, ?_⟩) ?_ ?_
            rotate_left
            · intro w'
              go_simp
              with_reducible rfl
            rotate_left
            · simp only [Act.put, List.setIfInBounds_toArray, List.set_cons_zero, List.set_cons_succ]
              rfl
            refine pure_ (i := 20) (N := some 69) (v := ?_) (a' := ?_) #[true, true, true, true, true, true, true, true, true, true, true, true, false, true, true, true, false, false, true, false, true, false, false, false, false, false] rfl rfl (by kernel_rfl) (fun _ _ _ h => h) (Or.inl ⟨by rfl, ?_⟩) ?_ ?_
            rotate_left
            · intro w'
              go_simp
              with_reducible rfl
            rotate_left
            · simp only [Act.put, List.setIfInBounds_toArray, List.set_cons_zero, List.set_cons_succ]
              rfl
            refine one_ (i := 12) (N := some 61) #[true, true, true, true, true, true, true, true, true, true, true, true, true, true, true, true, false, false, true, false, true, false, false, false, false, false] rfl rfl (by kernel_rfl) (by decide) (fun K hK => ?_)
            refine call_ 15 #[.int .u8 p, .slice A l.length c] (by rfl) rfl (by first | (go_simp; done) | (go_simp; rfl)) ?_
            refine (digest_Tagged.calls p HP.out A c l _ (Kd.C_below HRL.out Bx1.out) (HG.out.below Bx1.out) (fun s hs => by have := HLS.out s hs; omega)).mono ?_
            rintro e x2 ⟨rfl, hb⟩
            rw [sha_tag p HP.out l HL2.out, ← HX.out]
            have Bx2 : Aside0 (Below w.heap.size w x2) := ⟨below_step Bx1.out hb⟩
            have Px2 : Aside0 (x2.heap[g3]? = some (.cells #[.int .u8 p, .int .u8 q] 34 (0, 0))) := ⟨blk_below Px1.out hb⟩
            clear hb
            refine ⟨_, rfl, hK.out _ _ ⟨(blk_cell Px2.out 0).trans rfl, (blk_cell Px2.out 1).trans rfl⟩ (fun hHeld => ?_)⟩
            clear hK K Bx1 Px1
            refine norm_ (a' := ?_) ?_ ?_
            rotate_left
            · show Act.put _ (some 61) _ = _
              simp only [Act.put, List.setIfInBounds_toArray, List.set_cons_zero, List.set_cons_succ]
              rfl
            refine one_ (i := 16) (N := some 65) #[true, true, true, true, true, true, true, true, true, true, true, true, true, true, true, true, true, false, true, false, true, false, false, false, false, false] rfl rfl (by kernel_rfl) (by decide) (fun K hK => ?_)
            refine call_ 15 #[.int .u8 q, .slice A' m.length c'] (by rfl) rfl (by first | (go_simp; done) | (go_simp; rfl)) ?_
            refine (digest_Tagged.calls q HQ.out A' c' m _ (Kd.C_below HRM.out Bx2.out) (HG.out.below Bx2.out) (fun s hs => by have := HMS.out s hs; omega)).mono ?_
            rintro e x3 ⟨rfl, hb⟩
            rw [sha_tag q HQ.out m HM2.out, ← HY.out]
            have Bx3 : Aside0 (Below w.heap.size w x3) := ⟨below_step Bx2.out hb⟩
            have Px3 : Aside0 (x3.heap[g3]? = some (.cells #[.int .u8 p, .int .u8 q] 34 (0, 0))) := ⟨blk_below Px2.out hb⟩
            clear hb
            refine ⟨_, rfl, hK.out _ _ ⟨(blk_cell Px3.out 0).trans rfl, (blk_cell Px3.out 1).trans rfl⟩ (fun hHeld => ?_)⟩
            clear hK K Bx2 Px2
            refine norm_ (a' := ?_) ?_ ?_
            rotate_left
            · show Act.put _ (some 65) _ = _
              simp only [Act.put, List.setIfInBounds_toArray, List.set_cons_zero, List.set_cons_succ]
              rfl
            refine pure_ (i := 17) (N := some 66) (v := ?_) (a' := ?_) #[true, true, true, true, true, true, true, true, true, true, true, true, true, true, true, true, true, true, true, false, true, false, false, false, false, false] rfl rfl (by kernel_rfl) (fun _ _ _ h => h) (Or.inl ⟨by rfl, ?_⟩) ?_ ?_
            rotate_left
            · intro w'
              go_simp
              with_reducible rfl
            rotate_left
            · simp only [Act.put, List.setIfInBounds_toArray, List.set_cons_zero, List.set_cons_succ]
              rfl
            refine one_ (i := 19) (N := some 68) #[true, true, true, true, true, true, true, true, true, true, true, true, true, true, true, true, true, true, true, true, true, false, false, false, false, false] rfl rfl (by kernel_rfl) (by decide) (fun K hK => ?_)
            refine call_ 10 #[.string X] (by rfl) rfl (by first | (go_simp; done) | (go_simp; rfl)) ?_
            refine (digest_Sum.calls X _ (HG.out.below Bx3.out) (by rw [HX.out, strOfNums_size, tagB_len]; have := HL2.out; omega)).mono ?_
            rintro e x4 ⟨rfl, hb⟩
            have Bx4 : Aside0 (Below w.heap.size w x4) := ⟨below_step Bx3.out hb⟩
            have Px4 : Aside0 (x4.heap[g3]? = some (.cells #[.int .u8 p, .int .u8 q] 34 (0, 0))) := ⟨blk_below Px3.out hb⟩
            clear hb
            refine ⟨_, rfl, hK.out _ _ ⟨(blk_cell Px4.out 0).trans rfl, (blk_cell Px4.out 1).trans rfl⟩ (fun hHeld => ?_)⟩
            clear hK K Bx3 Px3
            refine norm_ (a' := ?_) ?_ ?_
            rotate_left
            · show Act.put _ (some 68) _ = _
              simp only [Act.put, List.setIfInBounds_toArray, List.set_cons_zero, List.set_cons_succ]
              rfl
            refine one_ (i := 21) (N := some 70) #[true, true, true, true, true, true, true, true, true, true, true, true, true, true, true, true, true, true, true, true, true, true, false, false, false, false] rfl rfl (by kernel_rfl) (by decide) (fun K hK => ?_)
            refine call_ 10 #[.string Y] (by rfl) rfl (by first | (go_simp; done) | (go_simp; rfl)) ?_
            refine (digest_Sum.calls Y _ (HG.out.below Bx4.out) (by rw [HY.out, strOfNums_size, tagB_len]; have := HM2.out; omega)).mono ?_
            rintro e x5 ⟨rfl, hb⟩
            have Bx5 : Aside0 (Below w.heap.size w x5) := ⟨below_step Bx4.out hb⟩
            have Px5 : Aside0 (x5.heap[g3]? = some (.cells #[.int .u8 p, .int .u8 q] 34 (0, 0))) := ⟨blk_below Px4.out hb⟩
            clear hb
            refine ⟨_, rfl, hK.out _ _ ⟨(blk_cell Px5.out 0).trans rfl, (blk_cell Px5.out 1).trans rfl⟩ (fun hHeld => ?_)⟩
            clear hK K Bx4 Px4
            refine norm_ (a' := ?_) ?_ ?_
            rotate_left
            · show Act.put _ (some 70) _ = _
              simp only [Act.put, List.setIfInBounds_toArray, List.set_cons_zero, List.set_cons_succ]
              rfl
            refine pure_ (i := 22) (N := some 71) (v := ?_) (a' := ?_) #[true, true, true, true, true, true, true, true, true, true, true, true, true, true, true, true, true, true, true, true, true, true, true, false, false, false] rfl rfl (by kernel_rfl) (fun _ _ _ h => h) (Or.inl ⟨by rfl, ?_⟩) ?_ ?_
            rotate_left
            · intro w'
              go_simp
              with_reducible rfl
            rotate_left
            · simp only [Act.put, List.setIfInBounds_toArray, List.set_cons_zero, List.set_cons_succ]
              rfl
            refine pure_ (i := 23) (N := some 72) (v := ?_) (a' := ?_) #[true, true, true, true, true, true, true, true, true, true, true, true, true, true, true, true, true, true, true, true, true, true, true, true, false, false] rfl rfl (by kernel_rfl) (fun _ _ _ h => h) (Or.inl ⟨by rfl, ?_⟩) ?_ ?_
            rotate_left
            · intro w'
              go_simp
              with_reducible rfl
            rotate_left
            · simp only [Act.put, List.setIfInBounds_toArray, List.set_cons_zero, List.set_cons_succ]
              rfl
            refine pure_ (i := 24) (N := some 73) (v := ?_) (a' := ?_) #[true, true, true, true, true, true, true, true, true, true, true, true, true, true, true, true, true, true, true, true, true, true, true, true, true, false] rfl rfl (by kernel_rfl) (fun _ _ _ h => h) (Or.inl ⟨by rfl, ?_⟩) ?_ ?_
            rotate_left
            · intro w'
              go_simp
              with_reducible rfl
            rotate_left
            · simp only [Act.put, List.setIfInBounds_toArray, List.set_cons_zero, List.set_cons_succ]
              rfl
            refine pure_ (i := 25) (N := some 6) (v := ?_) (a' := ?_) #[true, true, true, true, true, true, true, true, true, true, true, true, true, true, true, true, true, true, true, true, true, true, true, true, true, true] rfl rfl (by kernel_rfl) (fun _ _ _ h => h) (Or.inl ⟨by rfl, ?_⟩) ?_ ?_
            rotate_left
            · intro w'
              go_simp
              with_reducible rfl
            rotate_left
            · simp only [Act.put, List.setIfInBounds_toArray, List.set_cons_zero, List.set_cons_succ]
              rfl
            refine done_ (by kernel_rfl) ?_
            go_wp2
            go_ret
            exact ⟨by first | rfl | simp, Bx5.out⟩

end Go.Proofs.YtibhbamckebggaaDoor.Q
namespace Go.Proofs.YtibhbamckebggaaDoor.Walks
open Go.RowKit Go.Proofs.YtibhbamckebggaaDoor.Q Go.Proofs.YtibhbamckebggaaDoorW.PrintWords Go.Proofs.YtibhbamckebggaaDoorW.PrintLast Go.Proofs.YtibhbamckebggaaDoorW.PrintMore
set_option linter.unusedVariables false
theorem wf8 {x : Int} (g : (Lit.int .u8 x).wf = true) : 0 ≤ x ∧ x < 256 := by
  have h : (decide (0 ≤ x) && decide (x ≤ 255)) = true := by first | exact g | simpa [Lit.wf, IntKind.min, IntKind.max, IntKind.signed, IntKind.bits] using g
  simp only [Bool.and_eq_true, decide_eq_true_eq] at h
  omega
theorem DigestApart (W : World) (hG : Q.InG W) (cs0 : Array Value) (a0 : (Int × Int)) (K0 : (Kd.pair (Kd.int .u8) (Kd.int .u8)).K W a0 cs0.toList) (g0 : ((Lit.int .u8 a0.1).wf = true ∧ (Lit.int .u8 a0.2).wf = true)) (A1 : Option Addr) (c1 : Nat) (a1 : (List ByteArray)) (l1 : a1.length ≤ c1) (C1 : Kd.C Kd.string W A1 a1.length a1) (g1 : (a1.length * 16 ≤ 140737488351232 ∧ ∀ y0 ∈ a1, y0.size ≤ 140737488351232)) (A2 : Option Addr) (c2 : Nat) (a2 : (List ByteArray)) (l2 : a2.length ≤ c2) (C2 : Kd.C Kd.string W A2 a2.length a2) (g2 : (a2.length * 16 ≤ 140737488351232 ∧ ∀ y0 ∈ a2, y0.size ≤ 140737488351232)) (hb : (1 + 1 + 1) + ((a1.map fun y0 => (y0.size + 1)).sum + 1) + ((a2.map fun y0 => (y0.size + 1)).sum + 1) ≤ 1048576) :
    Calls Tryd.prog 6 #[.agg cs0, .slice A1 a1.length c1, .slice A2 a2.length c2] W fun e w' => e = .returned (.bool true) ∧ Below W.heap.size W w' := by
  obtain rfl : cs0 = #[.int .u8 a0.1, .int .u8 a0.2] := by
    obtain ⟨x, y, hx, hy, hxy⟩ := K0
    have h1 : x = [.int .u8 a0.1] := hy
    have h2 : y = [.int .u8 a0.2] := hxy
    apply Array.toList_inj.1
    rw [hx, h1, h2]
    rfl
  have h1 := lenS_le a1
  have h2 := lenS_le a2
  exact stowagelaw03_DigestApart.calls a0.1 a0.2 (wf8 g0.1) (wf8 g0.2) A1 c1 a1 A2 c2 a2 W C1 l1 C2 l2 hG (by omega) (by omega) (by omega) (by omega) g1.2 g2.2
end Go.Proofs.YtibhbamckebggaaDoor.Walks
