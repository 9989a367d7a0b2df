/- DigestPieces answers true at every input of bulk at most 1048576: however bytes are cut the digest is the same; and more may be taken in behind a digest that was told. -/
import Derived.Test.YtibhbamckebggaaDoorSha
import Derived.Test.YtibhbamckebggaaDoorStepEq
import Derived.Deep.RegionHeld3
import Derived.Deep.DrawnRows
import Derived.Deep.MidRow
import Derived.Lib.LaidTab
import Derived.Laws.Closers25b
namespace Go.Proofs.YtibhbamckebggaaDoor.Q
open Go.RowKit Go.Proofs.YtibhbamckebggaaDoorW.PrintWords Go.Proofs.YtibhbamckebggaaDoorW.PrintLast Go.Proofs.YtibhbamckebggaaDoorW.PrintMore
set_option linter.unusedVariables false
set_option linter.unusedSimpArgs false
set_option maxHeartbeats 1000000
set_option maxRecDepth 10000
theorem W_nil (t : ByteArray) (w : World) : Calls Tryd.prog 13 #[.pointer none, .string t] w fun e w' => e = .returned (.tuple #[]) ∧ w' = w := by
  go_enter Tryd.func13, Tryd.ntmps13
  go_wp2
  first | go_end0 | ((try simp only [Exit.inBlock, Exit.then]); refine bodyPost_ret (results_none rfl _ _ _) rfl ?_)
  exact ⟨rfl, rfl⟩
theorem S_nil (w : World) : Calls Tryd.prog 14 #[.pointer none] w fun e w' => e = .returned (.string ⟨#[]⟩) ∧ w' = w := by
  go_enter Tryd.func14, Tryd.ntmps14
  go_wp2
  go_ret
  exact ⟨rfl, rfl⟩
def catS (l : List ByteArray) : Nat → ByteArray
  | 0 => ⟨#[]⟩
  | n + 1 => catS l n ++ l.getD n ByteArray.empty
theorem bytes_cat (a b : ByteArray) : bytesOf (a ++ b) = bytesOf a ++ bytesOf b := by
  unfold bytesOf
  rw [ByteArray.data_append, Array.toList_append, List.map_append]
theorem sumS_take (l : List ByteArray) (n : Nat) (h : n < l.length) : ((l.take n).map fun y => y.size + 1).sum + ((l.getD n ByteArray.empty).size + 1) ≤ (l.map fun y => y.size + 1).sum := by
  have e : l = l.take n ++ l[n] :: l.drop (n + 1) := by rw [← List.drop_eq_getElem_cons h, List.take_append_drop]
  have hl : (l.map fun y => y.size + 1).sum = ((l.take n).map fun y => y.size + 1).sum + (l[n].size + 1 + ((l.drop (n + 1)).map fun y => y.size + 1).sum) := by
    conv => lhs; rw [e]
    rw [List.map_append, List.sum_append, List.map_cons, List.sum_cons]
  rw [List.getD_eq_getElem?_getD, List.getElem?_eq_getElem h]
  simp only [Option.getD_some]
  omega
theorem catS_size (l : List ByteArray) : ∀ n, n ≤ l.length → (catS l n).size ≤ ((l.take n).map fun y => y.size + 1).sum
  | 0, _ => Nat.zero_le _
  | n + 1, h => by
    have ih := catS_size l n (by omega)
    rw [catS, ByteArray.size_append, List.take_add_one, List.getElem?_eq_getElem (by omega : n < l.length), List.getD_eq_getElem?_getD, List.getElem?_eq_getElem (by omega : n < l.length)]
    simp only [Option.toList, List.map_append, List.sum_append, List.map_cons, List.map_nil, List.sum_cons, List.sum_nil, Option.getD_some]
    omega
theorem sha_took (t : ByteArray) (h : t.size < 18446744073709551616) : strOfNums (shaOf (bytesOf t) (wr64 (bytesOf t).length)) = sha t := by
  unfold sha
  rw [bytesOf_length, wr64_id _ h]
theorem stowagelaw03_DigestPieces.calls (A : Option Addr) (c : Nat) (l : List ByteArray) (w : World) (hr : Kd.C Kd.string w A l.length l) (hG : InG w) (hs : (l.map fun y => y.size + 1).sum ≤ 1048576) :
    Calls Tryd.prog 4 #[.slice A l.length c] w fun e w' => e = .returned (.bool true) ∧ Below w.heap.size w w' := by
  have HG := Aside0.mk hG
  have H0 := Aside0.mk hG.pos
  have HR := Aside0.mk hr
  have HS := Aside0.mk hs
  clear hG hr hs
  go_enter Tryd.func4, Tryd.ntmps4
  go_wp2_with (fail)
  refine (T_New w w (Below.refl _ _)).mono ?_
  rintro e w1 ⟨g, rfl, hT, hB, hb⟩
  have T1 := Aside0.mk hT
  have B1 := Aside0.mk hB
  clear hT hB hb
  go_wp2_with (fail)
  refine (stowagelaw03_awake.calls w1 (HG.out.below B1.out)).mono ?_
  rintro e w2 ⟨rfl, hb⟩
  have T2 : Aside0 (Took w2 w.heap.size g (bytesOf (catS l 0))) := ⟨T1.out.below hb⟩
  have B2 : Aside0 (Below w.heap.size w w2) := ⟨below_step B1.out hb⟩
  clear hb T1 B1
  go_wp2_with (fail)
  go_loopg [4, 5] 21 (fun kq v4 v5 w' => ∃ n : Nat, v5 = .int .i64 (n : Int) ∧ v4 = .string (catS l n) ∧ Aside0 (n + kq = 21 ∧ n ≤ 20 ∧ n ≤ l.length) ∧ Aside0 (Took w' w.heap.size g (bytesOf (catS l n))) ∧ Aside0 (Below w.heap.size w w'))
  case atStart => exact ⟨0, rfl, rfl, ⟨by omega, by omega, by omega⟩, T2, B2⟩
  case round =>
    clear T2 B2
    obtain ⟨n, rfl, rfl, HN, T, B⟩ := hrel
    have HCS : Aside0 ((catS l n).size ≤ 1048576) := ⟨by
      have h1 := catS_size l n HN.out.2.2
      have h2 : ((l.take n).map fun y => y.size + 1).sum ≤ (l.map fun y => y.size + 1).sum := by
        conv => rhs; rw [← List.take_append_drop n l]
        rw [List.map_append, List.sum_append]
        omega
      have := HS.out
      omega⟩
    cases gk with
    | zero => have := HN.out; omega
    | succ k1 =>
      by_cases hn : n < l.length
      · have hlt : ((n : Int) < (l.length : Int)) = True := eq_true (by omega)
        by_cases hn2 : n < 20
        · have hlt2 : ((n : Int) < 20) = True := eq_true (by omega)
          obtain ⟨ad, ea, hcell0⟩ := Kd.at_string HR.out (n : Int) (by omega) (by omega)
          subst ea
          have hcell := below_cell hcell0 B.out
          rw [Int.toNat_natCast] at hcell
          obtain ⟨s, ys⟩ : ∃ s : ByteArray, s = l.getD n ByteArray.empty := ⟨_, rfl⟩
          rw [show rdOf ByteArray.empty l (n : Int) = s by rw [ys]; rfl] at hcell
          have YS := Aside0.mk ys
          have HS2 : Aside0 (s.size ≤ 1048576) := ⟨by have := sumS_take l n hn; rw [← ys] at this; have := HS.out; omega⟩
          clear hcell0 ys
          go_wp2_with (fail)
          refine (T_Write T.out s B.out (HG.out.below B.out) H0.out (by have := HS2.out; omega)).mono ?_
          rintro e w3 ⟨rfl, hT, hB⟩
          have T3 : Aside0 (Took w3 w.heap.size g (bytesOf (catS l (n + 1)))) := ⟨by rw [catS, bytes_cat, ← YS.out]; exact hT⟩
          have hcell3 : w3.cell? (ad.add n) = some (.string s) := by
            obtain ⟨ad2, ea2, h2⟩ := Kd.at_string HR.out (n : Int) (by omega) (by omega)
            cases ea2
            have := below_cell h2 hB
            rw [Int.toNat_natCast, show rdOf ByteArray.empty l (n : Int) = s by rw [YS.out]; rfl] at this
            exact this
          have B3 := Aside0.mk hB
          clear hT hB T B hcell
          have hq1 : ((catS l n).size + s.size ≤ 9223372036854775807) = True := eq_true (by have := HCS.out; have := HS2.out; omega)
          have hq2 : (9223372036854775807 < (catS l n).size + s.size) = False := eq_false (by have := HCS.out; have := HS2.out; omega)
          have hq3 : (((catS l n).size : Int) + (s.size : Int) ≤ 9223372036854775807) = True := eq_true (by have := HCS.out; have := HS2.out; omega)
          have hq4 : (9223372036854775807 < ((catS l n).size : Int) + (s.size : Int)) = False := eq_false (by have := HCS.out; have := HS2.out; omega)
          go_wp2_with (fail)
          refine (T_Sum T3.out (HG.out.below B3.out)).mono ?_
          rintro e w4 ⟨rfl, hb⟩
          rw [sha_took _ (by rw [catS, ByteArray.size_append, ← YS.out]; have := HCS.out; have := HS2.out; omega)]
          have T4 : Aside0 (Took w4 w.heap.size g (bytesOf (catS l (n + 1)))) := ⟨T3.out.below hb⟩
          have B4 : Aside0 (Below w.heap.size w w4) := ⟨below_step B3.out hb⟩
          clear hb T3 B3 hcell3
          rw [show catS l n ++ s = catS l (n + 1) by rw [catS, YS.out]]
          go_wp2_with (fail)
          refine (digest_Sum.calls (catS l (n + 1)) w4 (HG.out.below B4.out) (by rw [catS, ByteArray.size_append, ← YS.out]; have := HCS.out; have := HS2.out; omega)).mono ?_
          rintro e w5 ⟨rfl, hb⟩
          have T5 : Aside0 (Took w5 w.heap.size g (bytesOf (catS l (n + 1)))) := ⟨T4.out.below hb⟩
          have B5 : Aside0 (Below w.heap.size w w5) := ⟨below_step B4.out hb⟩
          clear hb T4 B4
          go_wp2
          go_roundg k1
          case measure => have := HN.out; omega
          case rel => exact ⟨n + 1, by first | rfl | simp, rfl, ⟨by have := HN.out; omega, by omega, by omega⟩, T5, B5⟩
        · have hlt2 : ((n : Int) < 20) = False := eq_false (by omega)
          go_wp2_with (fail)
          refine (W_nil (catS l n) wr).mono ?_
          rintro e w8 ⟨rfl, rfl⟩
          go_wp2_with (fail)
          refine (T_Sum T.out (HG.out.below B.out)).mono ?_
          rintro e w4 ⟨rfl, hb⟩
          rw [sha_took _ (by have := HCS.out; omega)]
          have B4 : Aside0 (Below w.heap.size w w4) := ⟨below_step B.out hb⟩
          clear hb T B
          go_wp2_with (fail)
          refine (stowageref03_Sum.calls 200 (catS l n) (sha (catS l n)) w4 (refsum_eq 200 (by decide) _ (by have := HCS.out; omega))).mono ?_
          rintro e w5 ⟨rfl, hb⟩
          have B5 : Aside0 (Below w.heap.size w w5) := ⟨below_step B4.out hb⟩
          clear hb B4
          go_wp2_with (fail)
          refine (S_nil w5).mono ?_
          rintro e w6 ⟨rfl, rfl⟩
          go_wp2
          go_ret
          exact ⟨by first | rfl | simp, B5.out⟩
      · have hlt : ((n : Int) < (l.length : Int)) = False := eq_false (by omega)
        go_wp2_with (fail)
        refine (W_nil (catS l n) wr).mono ?_
        rintro e w8 ⟨rfl, rfl⟩
        go_wp2_with (fail)
        refine (T_Sum T.out (HG.out.below B.out)).mono ?_
        rintro e w4 ⟨rfl, hb⟩
        rw [sha_took _ (by have := HCS.out; omega)]
        have B4 : Aside0 (Below w.heap.size w w4) := ⟨below_step B.out hb⟩
        clear hb T B
        go_wp2_with (fail)
        refine (stowageref03_Sum.calls 200 (catS l n) (sha (catS l n)) w4 (refsum_eq 200 (by decide) _ (by have := HCS.out; omega))).mono ?_
        rintro e w5 ⟨rfl, hb⟩
        have B5 : Aside0 (Below w.heap.size w w5) := ⟨below_step B4.out hb⟩
        clear hb B4
        go_wp2_with (fail)
        refine (S_nil w5).mono ?_
        rintro e w6 ⟨rfl, rfl⟩
        go_wp2
        go_ret
        exact ⟨by first | rfl | simp, B5.out⟩
end Go.Proofs.YtibhbamckebggaaDoor.Q
namespace Go.Proofs.YtibhbamckebggaaDoor.Walks
open Go.RowKit Go.Proofs.YtibhbamckebggaaDoor.Q Go.Proofs.YtibhbamckebggaaDoorW.PrintWords Go.Proofs.YtibhbamckebggaaDoorW.PrintLast Go.Proofs.YtibhbamckebggaaDoorW.PrintMore
set_option linter.unusedVariables false
theorem DigestPieces (W : World) (hG : Q.InG W) (A0 : Option Addr) (c0 : Nat) (a0 : (List ByteArray)) (l0 : a0.length ≤ c0) (C0 : Kd.C Kd.string W A0 a0.length a0) (g0 : (a0.length * 16 ≤ 140737488351232 ∧ ∀ y0 ∈ a0, y0.size ≤ 140737488351232)) (hb : ((a0.map fun y0 => (y0.size + 1)).sum + 1) ≤ 1048576) :
    Calls Tryd.prog 4 #[.slice A0 a0.length c0] W fun e w' => e = .returned (.bool true) ∧ Below W.heap.size W w' := stowagelaw03_DigestPieces.calls A0 c0 a0 W C0 hG (by omega)
end Go.Proofs.YtibhbamckebggaaDoor.Walks
