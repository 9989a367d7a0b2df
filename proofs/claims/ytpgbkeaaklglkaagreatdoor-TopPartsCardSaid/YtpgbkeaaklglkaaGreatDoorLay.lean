
/- Contracts of the library (maps.Clone, maps.Keys, slices.Sorted, slices.Sort) at the given program, laid by the kit s own tools. -/
import Derived.Shelf.SlMaps.Clone
import Derived.Ground.SlmcProg
import Derived.Shelf.SlIter.Nil
import Derived.Shelf.SortM.Plain
import Derived.Shelf.SortM.SortNone
import Derived.Ground.GgzProg
import Derived.Ground.SlgmProg
import Derived.Test.YtpgbkeaaklglkaaGreatDoorProg
namespace Go.Proofs.YtpgbkeaaklglkaaGreatDoor.Q
open Go.RowKit Go.Maps Go.Sort Go.Shelf
def lay_mclone_ren : Go.Shelf.Ren := ⟨fun | 5 => 68 | 7 => 88 | n => n, fun | 23 => 58 | 25 => 9 | 3 => 9 | 4 => 4 | 20 => 20 | n => n, fun | n => n⟩
theorem lay_mclone : Go.Proofs.SlLaysW.n5 Tryz.prog lay_mclone_ren := {
 mixed := by kernel_rfl
 f5 := ⟨Tryz.f68.name, by decide, Tryz.func68.trans (congrArg some (by kernel_rfl))⟩
 f7 := Tryz.func88.trans (congrArg some (by kernel_rfl))
 t4 := Tryz.underlying4
 a4 := Tryz.isAgg4
 z4 := Tryz.sizeOf4
 v4 := Tryz.zeroValue4
 t20 := Tryz.underlying20
 a20 := Tryz.isAgg20
 z20 := Tryz.sizeOf20
 v20 := Tryz.zeroValue20
 t23 := Tryz.underlying58
 a23 := Tryz.isAgg58
 z23 := Tryz.sizeOf58
 v23 := Tryz.zeroValue58 }
def lay_keys_ren : Go.Shelf.Ren := ⟨fun | 7 => 60 | 10 => 77 | n => n, fun | 23 => 58 | 26 => 9 | 3 => 9 | 28 => 105 | 0 => 0 | 27 => 104 | 33 => 81 | 4 => 4 | n => n, fun | n => n⟩
theorem lay_keys : Go.Proofs.SlLaysZ.n7 Tryz.prog lay_keys_ren := {
 mixed := by kernel_rfl
 f7 := ⟨Tryz.f60.name, by decide, Tryz.func60.trans (congrArg some (by kernel_rfl))⟩
 f10 := ⟨Tryz.f77.name, by decide, Tryz.func77.trans (congrArg some (by kernel_rfl))⟩
 t0 := Tryz.underlying0
 a0 := Tryz.isAgg0
 z0 := Tryz.sizeOf0
 v0 := Tryz.zeroValue0
 t4 := Tryz.underlying4
 a4 := Tryz.isAgg4
 z4 := Tryz.sizeOf4
 v4 := Tryz.zeroValue4
 t23 := Tryz.underlying58
 a23 := Tryz.isAgg58
 z23 := Tryz.sizeOf58
 v23 := Tryz.zeroValue58
 t26 := Tryz.underlying9
 a26 := Tryz.isAgg9
 z26 := Tryz.sizeOf9
 v26 := Tryz.zeroValue9
 t27 := Tryz.underlying104
 a27 := Tryz.isAgg104
 z27 := Tryz.sizeOf104
 v27 := Tryz.zeroValue104
 t28 := Tryz.underlying105
 a28 := Tryz.isAgg105
 z28 := Tryz.sizeOf105
 v28 := Tryz.zeroValue105
 t33 := Tryz.underlying81
 a33 := Tryz.isAgg81
 z33 := Tryz.sizeOf81
 v33 := Tryz.zeroValue81 }
def lay_sorted_ren : Go.Shelf.Ren := ⟨fun | 6 => 59 | 8 => 75 | 9 => 76 | 11 => 92 | 13 => 94 | 12 => 93 | 23 => 108 | 24 => 109 | 14 => 99 | 15 => 100 | 16 => 101 | 17 => 102 | 18 => 103 | 19 => 104 | 20 => 105 | 21 => 106 | 22 => 107 | 25 => 110 | 26 => 111 | 27 => 112 | 28 => 113 | 29 => 114 | 30 => 115 | 31 => 116 | n => n, fun | 26 => 9 | 28 => 105 | 24 => 22 | 0 => 0 | 3 => 3 | 37 => 73 | 48 => 96 | 50 => 98 | 4 => 4 | 40 => 153 | 39 => 152 | 45 => 69 | 5 => 5 | 9 => 9 | 51 => 160 | 55 => 164 | 57 => 166 | 58 => 167 | 33 => 81 | n => n, fun | n => n⟩
theorem lay_sorted : Go.Proofs.SlLaysZ.n6 Tryz.prog lay_sorted_ren := {
 mixed := by kernel_rfl
 f6 := ⟨Tryz.f59.name, by decide, Tryz.func59.trans (congrArg some (by kernel_rfl))⟩
 f8 := ⟨Tryz.f75.name, by decide, Tryz.func75.trans (congrArg some (by kernel_rfl))⟩
 f11 := ⟨Tryz.f92.name, by decide, Tryz.func92.trans (congrArg some (by kernel_rfl))⟩
 t0 := Tryz.underlying0
 a0 := Tryz.isAgg0
 z0 := Tryz.sizeOf0
 v0 := Tryz.zeroValue0
 t24 := Tryz.underlying22
 a24 := Tryz.isAgg22
 z24 := Tryz.sizeOf22
 v24 := Tryz.zeroValue22
 t26 := Tryz.underlying9
 a26 := Tryz.isAgg9
 z26 := Tryz.sizeOf9
 v26 := Tryz.zeroValue9
 t28 := Tryz.underlying105
 a28 := Tryz.isAgg105
 z28 := Tryz.sizeOf105
 v28 := Tryz.zeroValue105
 i26 := by kernel_rfl }
def lay_sort_ren : Go.Shelf.Ren := ⟨fun | 6 => 76 | 8 => 94 | 9 => 93 | 19 => 108 | 20 => 109 | 21 => 99 | 22 => 100 | 23 => 101 | 24 => 102 | 25 => 103 | 26 => 104 | 27 => 105 | 28 => 106 | 29 => 107 | 36 => 110 | 31 => 111 | 32 => 112 | 37 => 113 | 38 => 114 | 39 => 115 | 41 => 116 | n => n, fun | 27 => 22 | 29 => 9 | 3 => 3 | 32 => 73 | 26 => 22 | 0 => 0 | 44 => 96 | 46 => 98 | 4 => 4 | 36 => 153 | 35 => 152 | 41 => 69 | 5 => 5 | 9 => 9 | 53 => 160 | 57 => 164 | 63 => 166 | 64 => 167 | n => n, fun | n => n⟩
theorem lay_sort : Go.Proofs.SlLaysM.n6 Tryz.prog lay_sort_ren := {
 mixed := by kernel_rfl
 f6 := ⟨Tryz.f76.name, by decide, Tryz.func76.trans (congrArg some (by kernel_rfl))⟩
 f8 := Tryz.func94.trans (congrArg some (by kernel_rfl))
 f9 := ⟨Tryz.f93.name, by decide, Tryz.func93.trans (congrArg some (by kernel_rfl))⟩
 f19 := Tryz.func108.trans (congrArg some (by kernel_rfl))
 f20 := Tryz.func109.trans (congrArg some (by kernel_rfl))
 f21 := ⟨Tryz.f99.name, by decide, Tryz.func99.trans (congrArg some (by kernel_rfl))⟩
 f22 := ⟨Tryz.f100.name, by decide, Tryz.func100.trans (congrArg some (by kernel_rfl))⟩
 f23 := ⟨Tryz.f101.name, by decide, Tryz.func101.trans (congrArg some (by kernel_rfl))⟩
 f24 := ⟨Tryz.f102.name, by decide, Tryz.func102.trans (congrArg some (by kernel_rfl))⟩
 f25 := ⟨Tryz.f103.name, by decide, Tryz.func103.trans (congrArg some (by kernel_rfl))⟩
 f26 := ⟨Tryz.f104.name, by decide, Tryz.func104.trans (congrArg some (by kernel_rfl))⟩
 f27 := ⟨Tryz.f105.name, by decide, Tryz.func105.trans (congrArg some (by kernel_rfl))⟩
 f28 := ⟨Tryz.f106.name, by decide, Tryz.func106.trans (congrArg some (by kernel_rfl))⟩
 f29 := ⟨Tryz.f107.name, by decide, Tryz.func107.trans (congrArg some (by kernel_rfl))⟩
 f31 := Tryz.func111.trans (congrArg some (by kernel_rfl))
 f32 := Tryz.func112.trans (congrArg some (by kernel_rfl))
 f36 := ⟨Tryz.f110.name, by decide, Tryz.func110.trans (congrArg some (by kernel_rfl))⟩
 f37 := ⟨Tryz.f113.name, by decide, Tryz.func113.trans (congrArg some (by kernel_rfl))⟩
 f38 := ⟨Tryz.f114.name, by decide, Tryz.func114.trans (congrArg some (by kernel_rfl))⟩
 f39 := ⟨Tryz.f115.name, by decide, Tryz.func115.trans (congrArg some (by kernel_rfl))⟩
 f41 := ⟨Tryz.f116.name, by decide, Tryz.func116.trans (congrArg some (by kernel_rfl))⟩
 t0 := Tryz.underlying0
 a0 := Tryz.isAgg0
 z0 := Tryz.sizeOf0
 v0 := Tryz.zeroValue0
 t3 := Tryz.underlying3
 a3 := Tryz.isAgg3
 z3 := Tryz.sizeOf3
 v3 := Tryz.zeroValue3
 t4 := Tryz.underlying4
 a4 := Tryz.isAgg4
 z4 := Tryz.sizeOf4
 v4 := Tryz.zeroValue4
 t5 := Tryz.underlying5
 a5 := Tryz.isAgg5
 z5 := Tryz.sizeOf5
 v5 := Tryz.zeroValue5
 t9 := Tryz.underlying9
 a9 := Tryz.isAgg9
 z9 := Tryz.sizeOf9
 v9 := Tryz.zeroValue9
 t26 := Tryz.underlying22
 a26 := Tryz.isAgg22
 z26 := Tryz.sizeOf22
 v26 := Tryz.zeroValue22
 t27 := Tryz.underlying22
 a27 := Tryz.isAgg22
 z27 := Tryz.sizeOf22
 v27 := Tryz.zeroValue22
 t29 := Tryz.underlying9
 a29 := Tryz.isAgg9
 z29 := Tryz.sizeOf9
 v29 := Tryz.zeroValue9
 t32 := Tryz.underlying73
 a32 := Tryz.isAgg73
 z32 := Tryz.sizeOf73
 v32 := Tryz.zeroValue73
 t35 := Tryz.underlying152
 a35 := Tryz.isAgg152
 z35 := Tryz.sizeOf152
 v35 := Tryz.zeroValue152
 t36 := Tryz.underlying153
 a36 := Tryz.isAgg153
 z36 := Tryz.sizeOf153
 v36 := Tryz.zeroValue153
 t41 := Tryz.underlying69
 a41 := Tryz.isAgg69
 z41 := Tryz.sizeOf69
 v41 := Tryz.zeroValue69
 t44 := Tryz.underlying96
 a44 := Tryz.isAgg96
 z44 := Tryz.sizeOf96
 v44 := Tryz.zeroValue96
 t46 := Tryz.underlying98
 a46 := Tryz.isAgg98
 z46 := Tryz.sizeOf98
 v46 := Tryz.zeroValue98
 t53 := Tryz.underlying160
 a53 := Tryz.isAgg160
 z53 := Tryz.sizeOf160
 v53 := Tryz.zeroValue160
 t57 := Tryz.underlying164
 a57 := Tryz.isAgg164
 z57 := Tryz.sizeOf164
 v57 := Tryz.zeroValue164
 t63 := Tryz.underlying166
 a63 := Tryz.isAgg166
 z63 := Tryz.sizeOf166
 v63 := Tryz.zeroValue166
 t64 := Tryz.underlying167
 a64 := Tryz.isAgg167
 z64 := Tryz.sizeOf167
 v64 := Tryz.zeroValue167 }


theorem lay_sorts (m : Nat) : AnyZ.SortsIn Tryz.prog lay_sorted_ren Fence.wide m :=
 ⟨fun blk off cap ss W hH hblk hsz => callsIn_wide.2 (AnyM.slices_Sort_string lay_sort blk off cap ss W hH hblk hsz),
 fun p cap W => callsIn_wide.2 (AnyM.slices_Sort_string_none lay_sort p cap W)⟩

theorem lay_maps_Keys (mb : Option Nat) (W : World) : CallsIn Fence.wide 5 Tryz.prog 60 #[.map mb] W fun e w' => e = .returned (.func (.func 77) #[] #[.pointer (some ⟨W.heap.size, 0, none⟩)]) ∧ w' = W.alloc (.cells #[.map mb] 58) :=
 AnyZ.keys_in lay_keys Fence.wide 5 trivial rfl mb W

set_option maxHeartbeats 1000000 in
theorem lay_Sorted_keys {H : Type} (b nn : Nat) (D0 : DataW H) (R : Value → Option (DataW H × List MemPlace)) (w : World) (hown : w.ownsMap Tryz.prog 9 R b nn D0) (hmax : Maps.size D0 ≤ maxLen) (hbytes : Maps.size D0 * 16 ≤ 140737488355328) :
  CallsIn Fence.wide 5 Tryz.prog 59 #[.func (.func 77) #[] #[.pointer (some ⟨w.heap.size, 0, none⟩)]] (w.alloc (.cells #[.map (some b)] 58)) fun e w' => ∃ (v : Value) (ss : List (List UInt8)), e = .returned v ∧ ss.Perm (strKeys D0) ∧
   w'.ownsRow (w.alloc (.cells #[.map (some b)] 58)).heap.size 9 1 v ss.length ((ss.mergeSort (fun x y => decide (x ≤ y))).map encStr) ∧ (v = .slice none 0 0 ↔ ss = []) ∧ Below (w.alloc (.cells #[.map (some b)] 58)).heap.size (w.alloc (.cells #[.map (some b)] 58)) w' := by
 have hbl := hown.lt
 have hseq : SeqGives Fence.wide 2 Tryz.prog 77 #[.pointer (some ⟨w.heap.size, 0, none⟩)] encStr (fun ss => ss.Perm (strKeys D0)) (Maps.size D0) (w.alloc (.cells #[.map (some b)] 58)) :=
  AnyZ.keys_gives (ρ := lay_keys_ren) { lay_keys with } Fence.wide _ trivial rfl (by omega) w.heap.size b nn D0 _ (by simp) (by simp) (by
   obtain ⟨es, clock, hb, Ft, hs, hD⟩ := hown
   exact ⟨es, clock, (Below.heap_alloc _ _ b hbl).trans hb, Ft, hs, hD⟩)
 exact AnyZ.sorted_in lay_sorted Fence.wide 5 trivial trivial trivial trivial rfl (by omega) (lay_sorts _) (enters_of Tryz.func76 (by kernel_rfl) rfl) 77 #[.pointer (some ⟨w.heap.size, 0, none⟩)] trivial (enters_of Tryz.func77 (by kernel_rfl) rfl) _ _ hmax hbytes _ hseq

end Go.Proofs.YtpgbkeaaklglkaaGreatDoor.Q