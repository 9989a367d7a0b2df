
/- digest.Tagged; the document's tells the same. -/
import Derived.Test.YtpgbkeaaklglkaaGreatDoorHash
import Derived.Test.YtpgbkeaaklglkaaGreatDoorDt
namespace Go.Proofs.YtpgbkeaaklglkaaGreatDoor.Q
open Go.RowKit Go.Proofs.YtpgbkeaaklglkaaGreatDoorW.PrintWords Go.Proofs.YtpgbkeaaklglkaaGreatDoorW.PrintLast Go.Proofs.YtpgbkeaaklglkaaGreatDoorW.PrintMore
set_option linter.unusedVariables false
set_option linter.unusedSimpArgs false
set_option maxHeartbeats 10000000
set_option maxRecDepth 100000
def le8 (n : Int) (j : Nat) : List Int := (List.range j).map fun k => n / 2 ^ (8 * (7 - k)) % 256
def partB (s : ByteArray) : List Int := le8 s.size 8 ++ bytesOf s
def tagB (p : Int) (l : List ByteArray) : List Int := p :: l.flatMap partB
theorem le8_in (n : Int) (j : Nat) : InB (le8 n j) := fun x h => by
  obtain ⟨k, _, rfl⟩ := List.mem_map.1 h
  omega
theorem le8_len (n : Int) (j : Nat) : (le8 n j).length = j := by simp [le8]
theorem le8_succ (n : Int) (j : Nat) : le8 n (j + 1) = le8 n j ++ [n / 2 ^ (8 * (7 - j)) % 256] := by
  unfold le8
  rw [List.range_succ, List.map_append]
  rfl
theorem le8_eq (n : Int) : le8 n 8 = [n / 72057594037927936 % 256, n / 281474976710656 % 256, n / 1099511627776 % 256, n / 4294967296 % 256, n / 16777216 % 256, n / 65536 % 256, n / 256 % 256, n % 256] := by
  have h : le8 n 8 = [n / 2 ^ 56 % 256, n / 2 ^ 48 % 256, n / 2 ^ 40 % 256, n / 2 ^ 32 % 256, n / 2 ^ 24 % 256, n / 2 ^ 16 % 256, n / 2 ^ 8 % 256, n / 2 ^ 0 % 256] := rfl
  rw [h]
  simp
theorem bytes_str {ys : List Int} (h : InB ys) : bytesOf (strOfNums ys) = ys := by
  unfold bytesOf
  rw [show (strOfNums ys).data.toList = ys.map fun n => UInt8.ofNat n.toNat from rfl, List.map_map]
  conv => rhs; rw [← List.map_id ys]
  apply List.map_congr_left
  intro x hx
  have := h x hx
  simp only [Function.comp_apply, UInt8.toNat_ofNat', id]
  omega
theorem tagB_take (p : Int) (l : List ByteArray) (n : Nat) (h : n < l.length) : tagB p (l.take (n + 1)) = tagB p (l.take n) ++ le8 (l.getD n ByteArray.empty).size 8 ++ bytesOf (l.getD n ByteArray.empty) := by
  rw [List.getD_eq_getElem?_getD, List.getElem?_eq_getElem h, List.take_add_one, List.getElem?_eq_getElem h]
  unfold tagB
  rw [List.flatMap_append]
  simp [partB]
theorem run_convLit {f : Operand → Value} {W : World} {gl n : Nat} {ys : List Int} (o : Oper) (x : Operand) (ho : o.op = .convert 72 9 x) (hx : f x = .slice (some ⟨gl, 0, none⟩) n n) (hn : ys.length = n) (hm : n ≤ 100)
    (h : W.heap[gl]? = some (.cells (ys.map (Value.int .u8)).toArray 5 (0, 0))) : (execOp f o).run Tryz.prog W = .ok (.value (.string (strOfNums ys))) W := by
  subst hn
  have hr := string_of_reads (P := Tryz.prog) (c := ys.length) Tryz.underlying72 Tryz.underlying5 Tryz.underlying9 (Kd.reads_of_C (enc := Value.int .u8) (d := (0 : Int)) (h1 := fun _ => rfl) (C_of_blk8 h (by omega)))
  unfold execOp
  simp only [ho, hx, Sem.run_bind, hr, Result.andThen_ok, Sem.run_pure]
theorem digest_Tagged.calls (p : Int) (hp : 0 ≤ p ∧ p < 256) (A : Option Addr) (c : Nat) (l : List ByteArray) (w : World) (hr : Kd.C Kd.string w A l.length l) (hG : InG w) (hl : ∀ s ∈ l, s.size ≤ 140737488355200) :
    Calls Tryz.prog 28 #[.int .u8 p, .slice A l.length c] w fun e w' => e = .returned (.string (strOfNums (shaOf (tagB p l) (wr64 (tagB p l).length)))) ∧ Below w.heap.size w w' := by
  have HG := Aside0.mk hG
  have H0 := Aside0.mk hG.pos
  have HL := Aside0.mk hl
  have HP := Aside0.mk hp
  have HR := Aside0.mk hr
  clear hG hl hp hr
  go_enter Tryz.func28, Tryz.ntmps28
  go_wp2_with (fail)
  refine (T_New w w (Below.refl _ _)).mono ?_
  rintro e w1 ⟨g, rfl, hT, hB, hb⟩
  have T1 := Aside0.mk hT
  have B1 := Aside0.mk hB
  clear hT hB hb
  go_wp2_with ((with_reducible refine gate_dst (N := 13) rfl ?_); refine HaltD.out ?_)
  refine ⟨?_⟩
  refine Kd.event_run (v := .string (strOfNums [p])) (w1 := w1.alloc (.cells (([p] : List Int).map (Value.int .u8)).toArray 5)) rfl (run_convLit (gl := w1.heap.size) (n := 1) (ys := [p]) _ (.tmp 12) ?a1 ?a2 rfl (by decide) (heap_alloc_new w1 _)) ?_
  case a1 => rfl
  case a2 => rfl
  have T2 : Aside0 (Took (w1.alloc (.cells (([p] : List Int).map (Value.int .u8)).toArray 5)) w.heap.size g []) := ⟨T1.out.below (below_alloc (Below.refl _ _) _)⟩
  have B2 : Aside0 (Below w.heap.size w (w1.alloc (.cells (([p] : List Int).map (Value.int .u8)).toArray 5))) := ⟨below_alloc B1.out _⟩
  clear T1 B1
  generalize w1.alloc (.cells (([p] : List Int).map (Value.int .u8)).toArray 5) = w2 at T2 B2 ⊢
  go_wp2_with (fail)
  refine (T_Write T2.out (strOfNums [p]) B2.out (HG.out.below B2.out) H0.out (by rw [strOfNums_size]; simp)).mono ?_
  rintro e w3 ⟨rfl, hT, hB⟩
  have T3 : Aside0 (Took w3 w.heap.size g (tagB p (l.take 0))) := ⟨by
    rw [bytes_str (fun x hx => by simp at hx; subst hx; exact HP.out)] at hT
    exact hT⟩
  have B3 := Aside0.mk hB
  clear hT hB T2 B2
  go_wp2_with (fail)
  go_loopg [17] (l.length + 1) (fun kq v17 w' => ∃ n : Nat, v17 = .int .i64 (n : Int) ∧ Aside0 (n + kq = l.length + 1 ∧ n ≤ l.length) ∧ Aside0 (Took w' w.heap.size g (tagB p (l.take n))) ∧ Aside0 (Below w.heap.size w w'))
  case atStart => exact ⟨0, rfl, ⟨by omega, by omega⟩, T3, B3⟩
  case round =>
    clear T3 B3
    obtain ⟨n, rfl, HN, T, B⟩ := hrel
    cases gk with
    | zero => have := HN.out; omega
    | succ k1 =>
      by_cases hn : n < l.length
      · have hlt : ((n : Int) < (l.length : Int)) = True := eq_true (by omega)
        obtain ⟨ad, ea, hcell0⟩ := Kd.at_string HR.out (n : Int) (by omega) (by omega)
        subst ea
        have hcell := below_cell hcell0 B.out
        rw [Int.toNat_natCast] at hcell
        obtain ⟨s, ys⟩ : ∃ s : ByteArray, s = l.getD n ByteArray.empty := ⟨_, rfl⟩
        rw [show rdOf ByteArray.empty l (n : Int) = s by rw [ys]; rfl] at hcell
        have YS := Aside0.mk ys
        have HS : Aside0 (s.size ≤ 140737488355200) := ⟨by rw [ys, List.getD_eq_getElem?_getD, List.getElem?_eq_getElem hn]; exact HL.out _ (List.getElem_mem hn)⟩
        have ht : ((s.size : Int) % 18446744073709551616) = s.size := by have := HS.out; omega
        clear hcell0 ys
        go_wp2_with ((with_reducible refine gate_dst (N := 49) rfl ?_); refine HaltD.out ?_)
        refine ⟨?_⟩
        obtain ⟨bs, hbs⟩ : ∃ bs : List Int, bs = [(s.size : Int) / 72057594037927936, (s.size : Int) / 281474976710656 % 256, (s.size : Int) / 1099511627776 % 256, (s.size : Int) / 4294967296 % 256, (s.size : Int) / 16777216 % 256, (s.size : Int) / 65536 % 256, (s.size : Int) / 256 % 256, (s.size : Int) % 256] := ⟨_, rfl⟩
        have HBS : Aside0 (bs = le8 s.size 8) := ⟨by rw [hbs, le8_eq]; have := HS.out; congr 1; omega⟩
        have hbl : bs.length = 8 := by rw [hbs]; rfl
        have hbm : #[Value.int .u8 ((s.size : Int) / 72057594037927936), .int .u8 ((s.size : Int) / 281474976710656 % 256), .int .u8 ((s.size : Int) / 1099511627776 % 256), .int .u8 ((s.size : Int) / 4294967296 % 256), .int .u8 ((s.size : Int) / 16777216 % 256), .int .u8 ((s.size : Int) / 65536 % 256), .int .u8 ((s.size : Int) / 256 % 256), .int .u8 ((s.size : Int) % 256)] = (bs.map (Value.int .u8)).toArray := by rw [hbs]; rfl
        rw [hbm]
        clear hbs hbm
        refine Kd.event_run (v := .string (strOfNums bs)) (w1 := wr.alloc (.cells (bs.map (Value.int .u8)).toArray 5)) rfl (run_convLit (gl := wr.heap.size) (n := 8) (ys := bs) _ (.tmp 48) ?a3 ?a4 hbl (by decide) (heap_alloc_new wr _)) ?_
        case a3 => rfl
        case a4 => rfl
        have T5 : Aside0 (Took (wr.alloc (.cells (bs.map (Value.int .u8)).toArray 5)) w.heap.size g (tagB p (l.take n))) := ⟨T.out.below (below_alloc (Below.refl _ _) _)⟩
        have B5 : Aside0 (Below w.heap.size w (wr.alloc (.cells (bs.map (Value.int .u8)).toArray 5))) := ⟨below_alloc B.out _⟩
        clear T B hcell
        generalize wr.alloc (.cells (bs.map (Value.int .u8)).toArray 5) = w5 at T5 B5 ⊢
        go_wp2_with (fail)
        refine (T_Write T5.out (strOfNums bs) B5.out (HG.out.below B5.out) H0.out (by rw [strOfNums_size, hbl]; decide)).mono ?_
        rintro e w6 ⟨rfl, hT, hB⟩
        have T6 : Aside0 (Took w6 w.heap.size g (tagB p (l.take n) ++ le8 s.size 8)) := ⟨by rw [bytes_str (by rw [HBS.out]; exact le8_in _ _), HBS.out] at hT; exact hT⟩
        have B6 := Aside0.mk hB
        clear hT hB T5 B5
        go_wp2_with (fail)
        refine (T_Write T6.out s B6.out (HG.out.below B6.out) H0.out HS.out).mono ?_
        rintro e w7 ⟨rfl, hT, hB⟩
        have T7 : Aside0 (Took w7 w.heap.size g (tagB p (l.take (n + 1)))) := ⟨by rw [tagB_take p l n hn, ← YS.out]; exact hT⟩
        have B7 := Aside0.mk hB
        clear hT hB T6 B6
        go_wp2
        go_roundg k1
        case measure => have := HN.out; omega
        case rel => exact ⟨n + 1, by have hm := Kd.C_max HR.out; rw [IntWalk.wrap64_in _ (by omega)]; rfl, ⟨by have := HN.out; omega, by omega⟩, T7, B7⟩
      · obtain rfl : n = l.length := by have := HN.out; omega
        have hlt : ((l.length : Int) < (l.length : Int)) = False := eq_false (by omega)
        rw [List.take_length] at T
        go_wp2_with (fail)
        refine (T_Sum T.out (HG.out.below B.out)).mono ?_
        rintro e w4 ⟨rfl, hb4⟩
        have B4 : Aside0 (Below w.heap.size w w4) := ⟨below_step B.out hb4⟩
        clear hb4
        go_wp2
        go_ret
        exact ⟨rfl, B4.out⟩
theorem refTagged_l1 (l : List ByteArray) (x6 : Nat) (h6 : x6 < l.length) (hl2 : l.length ≤ 1048576) (m : Int) (pre : List Int) (hp : pre.length + (l.getD x6 ByteArray.empty).size ≤ 4000000000) : ∀ (d j k : Nat), j + d = 8 → d < k → stowageref03_Tagged.l1 k l (pre ++ le8 m j) x6 m (56 - 8 * (j : Int)) = stowageref03_Tagged.l0 (k - d - 1) l (pre ++ le8 m 8 ++ bytesOf (l.getD x6 ByteArray.empty)) ((x6 + 1 : Nat) : Int)
  | 0, j, k, hj, hk => by
    obtain ⟨k, rfl⟩ : ∃ k', k = k' + 1 := ⟨k - 1, by omega⟩
    obtain rfl : j = 8 := by omega
    have hrd : rdOf ByteArray.empty l (x6 : Int) = l.getD x6 ByteArray.empty := rfl
    simp only [stowageref03_Tagged.l1]
    rw [if_neg (by omega), if_pos (by omega), if_pos (by omega), hrd, if_pos (by rw [List.length_append, le8_len]; omega)]
    rw [IntWalk.wrap64_in _ (by omega)]
    congr 1
  | d + 1, j, k, hj, hk => by
    obtain ⟨k, rfl⟩ : ∃ k', k = k' + 1 := ⟨k - 1, by omega⟩
    have ih := refTagged_l1 l x6 h6 hl2 m pre hp d (j + 1) k (by omega) (by omega)
    simp only [stowageref03_Tagged.l1]
    have hw : IntKind.u64.wrap (56 - 8 * (j : Int)) = 56 - 8 * (j : Int) := IntWalk.u64_in _ (by omega)
    rw [if_pos (by omega), hw, if_pos (by omega), if_pos (by rw [List.length_append, le8_len]; omega)]
    rw [show wrap64 (56 - 8 * (j : Int) - 8) = 56 - 8 * ((j + 1 : Nat) : Int) by rw [IntWalk.wrap64_in _ (by omega)]; omega]
    rw [show k + 1 - (d + 1) - 1 = k - d - 1 by omega, ← ih, le8_succ, ← List.append_assoc]
    congr 3
    unfold shr
    have e : min (56 - 8 * (j : Int)).toNat IntKind.u64.bits = 8 * (7 - j) := by
      have : (56 - 8 * (j : Int)).toNat = 8 * (7 - j) := by omega
      rw [this]
      exact Nat.min_eq_left (by show 8 * (7 - j) ≤ 64; omega)
    rw [e]
def lenS (l : List ByteArray) : Nat := (l.map (fun s => s.size + 8)).sum
theorem tagB_len (p : Int) (l : List ByteArray) : (tagB p l).length = 1 + lenS l := by
  unfold tagB lenS
  rw [List.length_cons, List.length_flatMap]
  have : ∀ s : ByteArray, (partB s).length = s.size + 8 := fun s => by simp [partB, le8_len, bytesOf_length]; omega
  simp only [this]
  omega
theorem lenS_take (l : List ByteArray) (n : Nat) (h : n < l.length) : lenS (l.take n) + (l.getD n ByteArray.empty).size + 8 ≤ lenS l := by
  have e : l = l.take n ++ l[n] :: l.drop (n + 1) := by rw [← List.drop_eq_getElem_cons h, List.take_append_drop]
  have hl : lenS l = lenS (l.take n) + (l[n].size + 8 + lenS (l.drop (n + 1))) := by
    unfold lenS
    conv => lhs; rw [e]
    rw [List.map_append, List.sum_append, List.map_cons, List.sum_cons]
  rw [List.getD_eq_getElem?_getD, List.getElem?_eq_getElem h]
  simp only [Option.getD_some]
  omega
theorem tagB_in {p : Int} (hp : 0 ≤ p ∧ p < 256) (l : List ByteArray) : InB (tagB p l) := fun x h => by
  rcases List.mem_cons.1 h with rfl | h
  · exact hp
  · obtain ⟨s, _, hs⟩ := List.mem_flatMap.1 h
    rcases List.mem_append.1 hs with hs | hs
    · exact le8_in _ _ x hs
    · exact bytes_in s x hs
theorem refTagged_l0 (p : Int) (hp : 0 ≤ p ∧ p < 256) (l : List ByteArray) (hl : l.length ≤ 1048576) (hs : lenS l ≤ 3000000000) : ∀ (d n k : Nat), n + d = l.length → 10 * d + 200 < k → stowageref03_Tagged.l0 k l (tagB p (l.take n)) (n : Int) = some (sha (strOfNums (tagB p l)))
  | 0, n, k, hn, hk => by
    obtain ⟨k, rfl⟩ : ∃ k', k = k' + 1 := ⟨k - 1, by omega⟩
    obtain rfl : n = l.length := by omega
    simp only [stowageref03_Tagged.l0]
    rw [if_neg (by omega), List.take_length, refsum_eq k (by omega) _ (by rw [strOfNums_size, tagB_len]; omega)]
    rfl
  | d + 1, n, k, hn, hk => by
    obtain ⟨k, rfl⟩ : ∃ k', k = k' + 1 := ⟨k - 1, by omega⟩
    have hlt : n < l.length := by omega
    have ht := lenS_take l n hlt
    have ih := refTagged_l0 p hp l hl hs d (n + 1) (k - 8 - 1) (by omega) (by omega)
    have h1 := refTagged_l1 l n hlt hl ((l.getD n ByteArray.empty).size : Int) (tagB p (l.take n)) (by rw [tagB_len]; omega) 8 0 k (by omega) (by omega)
    simp only [stowageref03_Tagged.l0]
    rw [if_pos (by omega), if_pos (by omega)]
    have hw : IntKind.u64.wrap (((rdOf ByteArray.empty l (n : Int)).size : Int)) = ((l.getD n ByteArray.empty).size : Int) := by
      rw [show rdOf ByteArray.empty l (n : Int) = l.getD n ByteArray.empty from rfl]
      exact IntWalk.u64_in _ (by omega)
    rw [hw]
    rw [show le8 ((l.getD n ByteArray.empty).size : Int) 0 = [] from rfl, List.append_nil] at h1
    rw [← ih, tagB_take p l n hlt]
    exact h1
theorem refTagged_eq (p : Int) (hp : 0 ≤ p ∧ p < 256) (l : List ByteArray) (hl : l.length ≤ 1048576) (hs : lenS l ≤ 3000000000) (k : Nat) (hk : 10 * l.length + 200 < k) : stowageref03_Tagged.f k p l = some (sha (strOfNums (tagB p l))) := by
  have h := refTagged_l0 p hp l hl hs l.length 0 k (by omega) hk
  exact h
theorem sha_tag (p : Int) (hp : 0 ≤ p ∧ p < 256) (l : List ByteArray) (hs : lenS l ≤ 3000000000) : strOfNums (shaOf (tagB p l) (wr64 (tagB p l).length)) = sha (strOfNums (tagB p l)) := by
  unfold sha
  rw [bytes_str (tagB_in hp l), strOfNums_size, wr64_id _ (by rw [tagB_len]; omega)]
end Go.Proofs.YtpgbkeaaklglkaaGreatDoor.Q