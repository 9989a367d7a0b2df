/- Contracts of the library (maps.Clone, maps.Keys, slices.Sorted, slices.Sort) at the given program, laid by the kit s own tools. -/
import Derived.Shelf.Strings.OnBuilder
import Derived.Shelf.SlMaps.Clone
import Derived.Ground.SlmcProg
import Derived.Shelf.SlIter.Nil
import Derived.Shelf.SortM.Plain
import Derived.Shelf.SortM.SortNone
import Derived.Ground.GgzProg
import Derived.Ground.SlgmProg
import Derived.Test.YtdeakccaecphlaaDoorProg
namespace Go.Proofs.YtdeakccaecphlaaDoor.Q
open Go.RowKit Go.Maps Go.Sort Go.Shelf
def lay_mclone_ren : Go.Shelf.Ren := ⟨fun | 5 => 34 | 7 => 49 | n => n, fun | 23 => 40 | 25 => 9 | 3 => 9 | 4 => 4 | 20 => 20 | n => n, fun | n => n⟩
theorem lay_mclone : Go.Proofs.SlLaysW.n5 Tryd.prog lay_mclone_ren := {
 mixed := by kernel_rfl
 f5 := ⟨Tryd.f34.name, by decide, Tryd.func34.trans (congrArg some (by kernel_rfl))⟩
 f7 := Tryd.func49.trans (congrArg some (by kernel_rfl))
 t4 := Tryd.underlying4
 a4 := Tryd.isAgg4
 z4 := Tryd.sizeOf4
 v4 := Tryd.zeroValue4
 t20 := Tryd.underlying20
 a20 := Tryd.isAgg20
 z20 := Tryd.sizeOf20
 v20 := Tryd.zeroValue20
 t23 := Tryd.underlying40
 a23 := Tryd.isAgg40
 z23 := Tryd.sizeOf40
 v23 := Tryd.zeroValue40 }
def lay_keys_ren : Go.Shelf.Ren := ⟨fun | 7 => 56 | 10 => 72 | n => n, fun | 23 => 40 | 26 => 9 | 3 => 9 | 28 => 81 | 0 => 0 | 27 => 80 | 33 => 28 | 4 => 4 | n => n, fun | n => n⟩
theorem lay_keys : Go.Proofs.SlLaysZ.n7 Tryd.prog lay_keys_ren := {
 mixed := by kernel_rfl
 f7 := ⟨Tryd.f56.name, by decide, Tryd.func56.trans (congrArg some (by kernel_rfl))⟩
 f10 := ⟨Tryd.f72.name, by decide, Tryd.func72.trans (congrArg some (by kernel_rfl))⟩
 t0 := Tryd.underlying0
 a0 := Tryd.isAgg0
 z0 := Tryd.sizeOf0
 v0 := Tryd.zeroValue0
 t4 := Tryd.underlying4
 a4 := Tryd.isAgg4
 z4 := Tryd.sizeOf4
 v4 := Tryd.zeroValue4
 t23 := Tryd.underlying40
 a23 := Tryd.isAgg40
 z23 := Tryd.sizeOf40
 v23 := Tryd.zeroValue40
 t26 := Tryd.underlying9
 a26 := Tryd.isAgg9
 z26 := Tryd.sizeOf9
 v26 := Tryd.zeroValue9
 t27 := Tryd.underlying80
 a27 := Tryd.isAgg80
 z27 := Tryd.sizeOf80
 v27 := Tryd.zeroValue80
 t28 := Tryd.underlying81
 a28 := Tryd.isAgg81
 z28 := Tryd.sizeOf81
 v28 := Tryd.zeroValue81
 t33 := Tryd.underlying28
 a33 := Tryd.isAgg28
 z33 := Tryd.sizeOf28
 v33 := Tryd.zeroValue28 }
def lay_sorted_ren : Go.Shelf.Ren := ⟨fun | 6 => 55 | 8 => 70 | 9 => 71 | 11 => 77 | 13 => 79 | 12 => 78 | 23 => 91 | 24 => 92 | 14 => 82 | 15 => 83 | 16 => 84 | 17 => 85 | 18 => 86 | 19 => 87 | 20 => 88 | 21 => 89 | 22 => 90 | 25 => 93 | 26 => 94 | 27 => 95 | 28 => 96 | 29 => 97 | 30 => 98 | 31 => 99 | n => n, fun | 26 => 9 | 28 => 81 | 24 => 25 | 0 => 0 | 3 => 3 | 37 => 59 | 48 => 73 | 50 => 63 | 4 => 4 | 40 => 119 | 39 => 118 | 45 => 123 | 5 => 5 | 9 => 9 | 51 => 127 | 55 => 131 | 57 => 133 | 58 => 134 | 33 => 28 | n => n, fun | n => n⟩
theorem lay_sorted : Go.Proofs.SlLaysZ.n6 Tryd.prog lay_sorted_ren := {
 mixed := by kernel_rfl
 f6 := ⟨Tryd.f55.name, by decide, Tryd.func55.trans (congrArg some (by kernel_rfl))⟩
 f8 := ⟨Tryd.f70.name, by decide, Tryd.func70.trans (congrArg some (by kernel_rfl))⟩
 f11 := ⟨Tryd.f77.name, by decide, Tryd.func77.trans (congrArg some (by kernel_rfl))⟩
 t0 := Tryd.underlying0
 a0 := Tryd.isAgg0
 z0 := Tryd.sizeOf0
 v0 := Tryd.zeroValue0
 t24 := Tryd.underlying25
 a24 := Tryd.isAgg25
 z24 := Tryd.sizeOf25
 v24 := Tryd.zeroValue25
 t26 := Tryd.underlying9
 a26 := Tryd.isAgg9
 z26 := Tryd.sizeOf9
 v26 := Tryd.zeroValue9
 t28 := Tryd.underlying81
 a28 := Tryd.isAgg81
 z28 := Tryd.sizeOf81
 v28 := Tryd.zeroValue81
 i26 := by kernel_rfl }
def lay_sort_ren : Go.Shelf.Ren := ⟨fun | 6 => 71 | 8 => 79 | 9 => 78 | 19 => 91 | 20 => 92 | 21 => 82 | 22 => 83 | 23 => 84 | 24 => 85 | 25 => 86 | 26 => 87 | 27 => 88 | 28 => 89 | 29 => 90 | 36 => 93 | 31 => 94 | 32 => 95 | 37 => 96 | 38 => 97 | 39 => 98 | 41 => 99 | n => n, fun | 27 => 25 | 29 => 9 | 3 => 3 | 32 => 59 | 26 => 25 | 0 => 0 | 44 => 73 | 46 => 63 | 4 => 4 | 36 => 119 | 35 => 118 | 41 => 123 | 5 => 5 | 9 => 9 | 53 => 127 | 57 => 131 | 63 => 133 | 64 => 134 | n => n, fun | n => n⟩
theorem lay_sort : Go.Proofs.SlLaysM.n6 Tryd.prog lay_sort_ren := {
 mixed := by kernel_rfl
 f6 := ⟨Tryd.f71.name, by decide, Tryd.func71.trans (congrArg some (by kernel_rfl))⟩
 f8 := Tryd.func79.trans (congrArg some (by kernel_rfl))
 f9 := ⟨Tryd.f78.name, by decide, Tryd.func78.trans (congrArg some (by kernel_rfl))⟩
 f19 := Tryd.func91.trans (congrArg some (by kernel_rfl))
 f20 := Tryd.func92.trans (congrArg some (by kernel_rfl))
 f21 := ⟨Tryd.f82.name, by decide, Tryd.func82.trans (congrArg some (by kernel_rfl))⟩
 f22 := ⟨Tryd.f83.name, by decide, Tryd.func83.trans (congrArg some (by kernel_rfl))⟩
 f23 := ⟨Tryd.f84.name, by decide, Tryd.func84.trans (congrArg some (by kernel_rfl))⟩
 f24 := ⟨Tryd.f85.name, by decide, Tryd.func85.trans (congrArg some (by kernel_rfl))⟩
 f25 := ⟨Tryd.f86.name, by decide, Tryd.func86.trans (congrArg some (by kernel_rfl))⟩
 f26 := ⟨Tryd.f87.name, by decide, Tryd.func87.trans (congrArg some (by kernel_rfl))⟩
 f27 := ⟨Tryd.f88.name, by decide, Tryd.func88.trans (congrArg some (by kernel_rfl))⟩
 f28 := ⟨Tryd.f89.name, by decide, Tryd.func89.trans (congrArg some (by kernel_rfl))⟩
 f29 := ⟨Tryd.f90.name, by decide, Tryd.func90.trans (congrArg some (by kernel_rfl))⟩
 f31 := Tryd.func94.trans (congrArg some (by kernel_rfl))
 f32 := Tryd.func95.trans (congrArg some (by kernel_rfl))
 f36 := ⟨Tryd.f93.name, by decide, Tryd.func93.trans (congrArg some (by kernel_rfl))⟩
 f37 := ⟨Tryd.f96.name, by decide, Tryd.func96.trans (congrArg some (by kernel_rfl))⟩
 f38 := ⟨Tryd.f97.name, by decide, Tryd.func97.trans (congrArg some (by kernel_rfl))⟩
 f39 := ⟨Tryd.f98.name, by decide, Tryd.func98.trans (congrArg some (by kernel_rfl))⟩
 f41 := ⟨Tryd.f99.name, by decide, Tryd.func99.trans (congrArg some (by kernel_rfl))⟩
 t0 := Tryd.underlying0
 a0 := Tryd.isAgg0
 z0 := Tryd.sizeOf0
 v0 := Tryd.zeroValue0
 t3 := Tryd.underlying3
 a3 := Tryd.isAgg3
 z3 := Tryd.sizeOf3
 v3 := Tryd.zeroValue3
 t4 := Tryd.underlying4
 a4 := Tryd.isAgg4
 z4 := Tryd.sizeOf4
 v4 := Tryd.zeroValue4
 t5 := Tryd.underlying5
 a5 := Tryd.isAgg5
 z5 := Tryd.sizeOf5
 v5 := Tryd.zeroValue5
 t9 := Tryd.underlying9
 a9 := Tryd.isAgg9
 z9 := Tryd.sizeOf9
 v9 := Tryd.zeroValue9
 t26 := Tryd.underlying25
 a26 := Tryd.isAgg25
 z26 := Tryd.sizeOf25
 v26 := Tryd.zeroValue25
 t27 := Tryd.underlying25
 a27 := Tryd.isAgg25
 z27 := Tryd.sizeOf25
 v27 := Tryd.zeroValue25
 t29 := Tryd.underlying9
 a29 := Tryd.isAgg9
 z29 := Tryd.sizeOf9
 v29 := Tryd.zeroValue9
 t32 := Tryd.underlying59
 a32 := Tryd.isAgg59
 z32 := Tryd.sizeOf59
 v32 := Tryd.zeroValue59
 t35 := Tryd.underlying118
 a35 := Tryd.isAgg118
 z35 := Tryd.sizeOf118
 v35 := Tryd.zeroValue118
 t36 := Tryd.underlying119
 a36 := Tryd.isAgg119
 z36 := Tryd.sizeOf119
 v36 := Tryd.zeroValue119
 t41 := Tryd.underlying123
 a41 := Tryd.isAgg123
 z41 := Tryd.sizeOf123
 v41 := Tryd.zeroValue123
 t44 := Tryd.underlying73
 a44 := Tryd.isAgg73
 z44 := Tryd.sizeOf73
 v44 := Tryd.zeroValue73
 t46 := Tryd.underlying63
 a46 := Tryd.isAgg63
 z46 := Tryd.sizeOf63
 v46 := Tryd.zeroValue63
 t53 := Tryd.underlying127
 a53 := Tryd.isAgg127
 z53 := Tryd.sizeOf127
 v53 := Tryd.zeroValue127
 t57 := Tryd.underlying131
 a57 := Tryd.isAgg131
 z57 := Tryd.sizeOf131
 v57 := Tryd.zeroValue131
 t63 := Tryd.underlying133
 a63 := Tryd.isAgg133
 z63 := Tryd.sizeOf133
 v63 := Tryd.zeroValue133
 t64 := Tryd.underlying134
 a64 := Tryd.isAgg134
 z64 := Tryd.sizeOf134
 v64 := Tryd.zeroValue134 }


theorem lay_sorts (m : Nat) : AnyZ.SortsIn Tryd.prog lay_sorted_ren Fence.wide m :=
 ⟨fun blk off cap ss W hH hblk hsz => callsIn_wide.2 (AnyM.slices_Sort_string lay_sort blk off cap ss W hH hblk hsz),
 fun p cap W => callsIn_wide.2 (AnyM.slices_Sort_string_none lay_sort p cap W)⟩

theorem lay_maps_Keys (mb : Option Nat) (W : World) : CallsIn Fence.wide 5 Tryd.prog 56 #[.map mb] W fun e w' => e = .returned (.func (.func 72) #[] #[.pointer (some ⟨W.heap.size, 0, none⟩)]) ∧ w' = W.alloc (.cells #[.map mb] 40) :=
 AnyZ.keys_in lay_keys Fence.wide 5 trivial rfl mb W

set_option maxHeartbeats 1000000 in
theorem lay_Sorted_keys {H : Type} (b nn : Nat) (D0 : DataW H) (R : Value → Option (DataW H × List MemPlace)) (w : World) (hown : w.ownsMap Tryd.prog 9 R b nn D0) (hmax : Maps.size D0 ≤ maxLen) (hbytes : Maps.size D0 * 16 ≤ 140737488355328) :
  CallsIn Fence.wide 5 Tryd.prog 55 #[.func (.func 72) #[] #[.pointer (some ⟨w.heap.size, 0, none⟩)]] (w.alloc (.cells #[.map (some b)] 40)) fun e w' => ∃ (v : Value) (ss : List (List UInt8)), e = .returned v ∧ ss.Perm (strKeys D0) ∧
   w'.ownsRow (w.alloc (.cells #[.map (some b)] 40)).heap.size 9 1 v ss.length ((ss.mergeSort (fun x y => decide (x ≤ y))).map encStr) ∧ (v = .slice none 0 0 ↔ ss = []) ∧ Below (w.alloc (.cells #[.map (some b)] 40)).heap.size (w.alloc (.cells #[.map (some b)] 40)) w' := by
 have hbl := hown.lt
 have hseq : SeqGives Fence.wide 2 Tryd.prog 72 #[.pointer (some ⟨w.heap.size, 0, none⟩)] encStr (fun ss => ss.Perm (strKeys D0)) (Maps.size D0) (w.alloc (.cells #[.map (some b)] 40)) :=
  AnyZ.keys_gives (ρ := lay_keys_ren) { lay_keys with } Fence.wide _ trivial rfl (by omega) w.heap.size b nn D0 _ (by simp) (by simp) (by
   obtain ⟨es, clock, hb, Ft, hs, hD⟩ := hown
   exact ⟨es, clock, (Below.heap_alloc _ _ b hbl).trans hb, Ft, hs, hD⟩)
 exact AnyZ.sorted_in lay_sorted Fence.wide 5 trivial trivial trivial trivial rfl (by omega) (lay_sorts _) (enters_of Tryd.func71 (by kernel_rfl) rfl) 72 #[.pointer (some ⟨w.heap.size, 0, none⟩)] trivial (enters_of Tryd.func72 (by kernel_rfl) rfl) _ _ hmax hbytes _ hseq

set_option maxHeartbeats 1000000 in
theorem lay_Sorted_keys_nil (w : World) :
  CallsIn Fence.wide 5 Tryd.prog 55 #[.func (.func 72) #[] #[.pointer (some ⟨w.heap.size, 0, none⟩)]] (w.alloc (.cells #[.map none] 40)) fun e w' => ∃ (v : Value) (ss : List (List UInt8)), e = .returned v ∧ ss = [] ∧
   w'.ownsRow (w.alloc (.cells #[.map none] 40)).heap.size 9 1 v ss.length ((ss.mergeSort (fun x y => decide (x ≤ y))).map encStr) ∧ (v = .slice none 0 0 ↔ ss = []) ∧ Below (w.alloc (.cells #[.map none] 40)).heap.size (w.alloc (.cells #[.map none] 40)) w' := by
 have hseq : SeqGives Fence.wide 2 Tryd.prog 72 #[.pointer (some ⟨w.heap.size, 0, none⟩)] encStr (fun ss : List (List UInt8) => ss = []) 0 (w.alloc (.cells #[.map none] 40)) :=
  AnyZ.keys_gives_nil (ρ := lay_keys_ren) { lay_keys with } Fence.wide _ trivial rfl w.heap.size _ (by simp) (by simp)
 exact AnyZ.sorted_in lay_sorted Fence.wide 5 trivial trivial trivial trivial rfl (by omega) (lay_sorts _) (enters_of Tryd.func71 (by kernel_rfl) rfl) 72 #[.pointer (some ⟨w.heap.size, 0, none⟩)] trivial (enters_of Tryd.func72 (by kernel_rfl) rfl) _ 0 (Nat.zero_le _) (by omega) _ hseq
end Go.Proofs.YtdeakccaecphlaaDoor.Q
namespace Go.Proofs.YtdeakccaecphlaaDoor.Q
open Go.RowKit Go.Shelf
def lay_lays156_ren : Go.Shelf.Ren := ⟨fun | 156 => 44 | 165 => 59 | 166 => 60 | 169 => 61 | 240 => 75 | 241 => 76 | 276 => 80 | 277 => 81 | n => n, fun | 31 => 25 | 9 => 9 | 3 => 3 | 4 => 4 | 0 => 0 | 20 => 20 | 72 => 87 | 76 => 91 | 70 => 85 | 37 => 58 | 75 => 90 | 127 => 110 | 164 => 114 | 5 => 5 | 80 => 64 | n => n, fun | n => n⟩
theorem lay_lays156 : Go.Proofs.Lays.n156 Tryd.prog lay_lays156_ren := {
 mixed := by kernel_rfl
 f156 := Tryd.func44.trans (congrArg some (by kernel_rfl))
 f165 := Tryd.func59.trans (congrArg some (by kernel_rfl))
 f166 := Tryd.func60.trans (congrArg some (by kernel_rfl))
 f169 := Tryd.func61.trans (congrArg some (by kernel_rfl))
 f240 := Tryd.func75.trans (congrArg some (by kernel_rfl))
 f241 := Tryd.func76.trans (congrArg some (by kernel_rfl))
 f276 := Tryd.func80.trans (congrArg some (by kernel_rfl))
 f277 := Tryd.func81.trans (congrArg some (by kernel_rfl))
 t0 := Tryd.underlying0
 a0 := Tryd.isAgg0
 z0 := Tryd.sizeOf0
 v0 := Tryd.zeroValue0
 t3 := Tryd.underlying3
 a3 := Tryd.isAgg3
 z3 := Tryd.sizeOf3
 v3 := Tryd.zeroValue3
 t4 := Tryd.underlying4
 a4 := Tryd.isAgg4
 z4 := Tryd.sizeOf4
 v4 := Tryd.zeroValue4
 t9 := Tryd.underlying9
 a9 := Tryd.isAgg9
 z9 := Tryd.sizeOf9
 v9 := Tryd.zeroValue9
 t20 := Tryd.underlying20
 a20 := Tryd.isAgg20
 z20 := Tryd.sizeOf20
 v20 := Tryd.zeroValue20
 t31 := Tryd.underlying25
 a31 := Tryd.isAgg25
 z31 := Tryd.sizeOf25
 v31 := Tryd.zeroValue25
 t37 := Tryd.underlying58
 a37 := Tryd.isAgg58
 z37 := Tryd.sizeOf58
 v37 := Tryd.zeroValue58
 t70 := Tryd.underlying85
 a70 := Tryd.isAgg85
 z70 := Tryd.sizeOf85
 v70 := Tryd.zeroValue85
 t72 := Tryd.underlying87
 a72 := Tryd.isAgg87
 z72 := Tryd.sizeOf87
 v72 := Tryd.zeroValue87
 t75 := Tryd.underlying90
 a75 := Tryd.isAgg90
 z75 := Tryd.sizeOf90
 v75 := Tryd.zeroValue90
 t76 := Tryd.underlying91
 a76 := Tryd.isAgg91
 z76 := Tryd.sizeOf91
 v76 := Tryd.zeroValue91
 t127 := Tryd.underlying110
 a127 := Tryd.isAgg110
 z127 := Tryd.sizeOf110
 v127 := Tryd.zeroValue110
 t164 := Tryd.underlying114
 a164 := Tryd.isAgg114
 z164 := Tryd.sizeOf114
 v164 := Tryd.zeroValue114 }
theorem lay_Builder_Extra_156 : Builder.Extra Tryd.prog lay_lays156_ren := {
 sizeBuilder := by kernel_rfl
 liesBuilder := by kernel_rfl
 t5 := Tryd.underlying5
 a5 := Tryd.isAgg5
 z5 := Tryd.sizeOf5
 v5 := Tryd.zeroValue5
 infoByte := by kernel_rfl
 cellsByte := by kernel_rfl
 sizeByte := by kernel_rfl
 neB5 := by decide }
open Go.RowKit in
theorem lay_strings_Join_none (a : Option Addr) (c : Nat) (sep : ByteArray) (w : World) :
  Calls Tryd.prog 44 #[.slice a 0 c, .string sep] w fun e w' => e = .returned (.string ⟨#[]⟩) ∧ w' = w := Any.strings_Join_none lay_lays156 lay_Builder_Extra_156 a c sep w
open Go.RowKit in
theorem lay_strings_Join (bk o c : Nat) (xs : List ByteArray) (sep : ByteArray) (w : World) (hcells : ∀ (j : Nat) x, xs[j]? = some x → w.cell? ⟨bk, o + j, none⟩ = some (.string x)) (hbk : bk < w.heap.size) (hN : xs.length ≤ 140737488355328) (hcap : xs.length ≤ c) (hlen : (Lib.join (xs.map (·.data.toList)) sep.data.toList).length ≤ 140737488355328) :
  Calls Tryd.prog 44 #[.slice (some ⟨bk, o, none⟩) xs.length c, .string sep] w fun e w' => e = .returned (.string ⟨(Lib.join (xs.map (·.data.toList)) sep.data.toList).toArray⟩) ∧ Below w.heap.size w w' := Any.strings_Join lay_lays156 lay_Builder_Extra_156 bk o c xs sep w hcells hbk hN hcap hlen
end Go.Proofs.YtdeakccaecphlaaDoor.Q
