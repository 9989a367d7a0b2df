
/- What digest.block reckons, as a plain function; rows of numbers in memory. -/
import Derived.Test.YtpgbkeaaklglkaaGreatDoorDa
import Derived.Deep.RegionHeld3
import Derived.Deep.DrawnRows
import Derived.Deep.MidRow
import Derived.Lib.LaidTab
import Derived.Laws.Closers25b
namespace Go.Proofs.YtpgbkeaaklglkaaGreatDoor.Q
open Go.RowKit Go.Proofs.YtpgbkeaaklglkaaGreatDoorW.PrintWords Go.Proofs.YtpgbkeaaklglkaaGreatDoorW.PrintLast Go.Proofs.YtpgbkeaaklglkaaGreatDoorW.PrintMore
set_option linter.unusedVariables false
set_option linter.unusedSimpArgs false
set_option maxHeartbeats 10000000
set_option maxRecDepth 100000
def arr (xs : List Int) : Array Value := (xs.map (Value.int .u32)).toArray
theorem arr_size (xs : List Int) : (arr xs).size = xs.length := by simp [arr]
theorem arr_one (xs : List Int) : (arr xs).all (·.oneCell') = true := by
  rw [Array.all_eq_true_iff_forall_mem]
  intro v hv
  simp [arr] at hv
  obtain ⟨x, _, rfl⟩ := hv
  rfl
theorem arr_at {xs : List Int} {n : Nat} (h : n < xs.length) : (arr xs)[n]? = some (.int .u32 (xs.getD n 0)) := by
  simp [arr, List.getD, h]
def IsArr (W : World) (g : Nat) (t : Nat) (xs : List Int) : Prop := W.heap[g]? = some (.cells (arr xs) t (0, 0))
section
variable {W W' : World} {g t : Nat} {xs : List Int}
theorem IsArr.cell (h : IsArr W g t xs) {n : Nat} (hn : n < xs.length) : W.cell? ⟨g, n, none⟩ = some (.int .u32 (xs.getD n 0)) := (blk_cell h n).trans (arr_at hn)
theorem IsArr.frozen (h : IsArr W g t xs) (n : Nat) : W.frozen? ⟨g, n, none⟩ = false := blk_frozen h n
theorem IsArr.lt (h : IsArr W g t xs) : g < W.heap.size := blk_lt h
theorem IsArr.below (h : IsArr W g t xs) (hb : Below W.heap.size W W') : IsArr W' g t xs := blk_below h hb
theorem IsArr.alloc (h : IsArr W g t xs) (o : Obj) : IsArr (W.alloc o) g t xs := h.below (below_alloc (Below.refl _ _) o)
theorem IsArr.drewN (h : IsArr W g t xs) (n : Nat) : IsArr (W.drewN n) g t xs := h
theorem IsArr.drew (h : IsArr W g t xs) : IsArr W.drew g t xs := h
theorem IsArr.far (h : IsArr W g t xs) {q : Addr} (hq : g ≠ q.block) (v : Value) : IsArr (W.setCell q v) g t xs := (Below.heap_setCell _ _ _ _ hq).trans h
theorem IsArr.set (h : IsArr W g t xs) (n : Nat) (v : Int) : IsArr (W.setCell ⟨g, n, none⟩ (.int .u32 v)) g t (xs.set n v) := by
  unfold IsArr
  rw [setCell_eq_setRow W g n _ t (0, 0) _ h, setRow_heap W g _ _ t (0, 0) h]
  congr 2
  apply Array.ext'
  simp [arr, List.map_set]
theorem IsArr.row (h : IsArr W g t xs) (ys : List Int) : IsArr (W.setRow g (arr ys)) g t ys := setRow_heap W g _ _ t (0, 0) h
theorem IsArr.farRow (h : IsArr W g t xs) {k : Nat} (hk : g ≠ k) (cs : Array Value) : IsArr (W.setRow k cs) g t xs := (setRow_other W k g cs hk).trans h
end
theorem sizes97 : (Tryz.prog.info? 97).map (·.size) = some 8 := by kernel_rfl
theorem rot_at (x n : Int) (s : Int) (h : Go.bits .and .u64 (IntKind.u64.wrap n) 31 = s) (h0 : 0 ≤ s) (h1 : s ≤ 32) : bits_RotateLeft32.f x n = some (Go.bits .or .u32 (shl .u32 x s) (shr .u32 x (32 - s))) := by
  unfold bits_RotateLeft32.f
  have h2 : IntKind.u64.wrap (32 - s) = 32 - s := by
    have : (32 - s) % 18446744073709551616 = 32 - s := Int.emod_eq_of_lt (by omega) (by omega)
    exact this
  rw [h, if_pos h0, h2, if_pos (by omega)]
def rotl (x s : Int) : Int := Go.bits .or .u32 (shl .u32 x s) (shr .u32 x (32 - s))
theorem rot6 (x : Int) : bits_RotateLeft32.f x (-6) = some (rotl x 26) := rot_at x _ _ (by decide) (by decide) (by decide)
theorem rot11 (x : Int) : bits_RotateLeft32.f x (-11) = some (rotl x 21) := rot_at x _ _ (by decide) (by decide) (by decide)
theorem rot25 (x : Int) : bits_RotateLeft32.f x (-25) = some (rotl x 7) := rot_at x _ _ (by decide) (by decide) (by decide)
theorem rot2 (x : Int) : bits_RotateLeft32.f x (-2) = some (rotl x 30) := rot_at x _ _ (by decide) (by decide) (by decide)
theorem rot13 (x : Int) : bits_RotateLeft32.f x (-13) = some (rotl x 19) := rot_at x _ _ (by decide) (by decide) (by decide)
theorem rot22 (x : Int) : bits_RotateLeft32.f x (-22) = some (rotl x 10) := rot_at x _ _ (by decide) (by decide) (by decide)
theorem rot7 (x : Int) : bits_RotateLeft32.f x (-7) = some (rotl x 25) := rot_at x _ _ (by decide) (by decide) (by decide)
theorem rot18 (x : Int) : bits_RotateLeft32.f x (-18) = some (rotl x 14) := rot_at x _ _ (by decide) (by decide) (by decide)
theorem rot17 (x : Int) : bits_RotateLeft32.f x (-17) = some (rotl x 15) := rot_at x _ _ (by decide) (by decide) (by decide)
theorem rot19 (x : Int) : bits_RotateLeft32.f x (-19) = some (rotl x 13) := rot_at x _ _ (by decide) (by decide) (by decide)
theorem rot_quiet2 {p n : Nat} {w : World} (x y r : Int) (h : bits_RotateLeft32.f x y = some r) : Calls Tryz.prog 73 #[.int .u32 x, .int .i64 y] (w.drewN (p + n)) fun e w'' => e = .returned (.int .u32 r) ∧ ∃ m, w'' = w.drewN (p + m) := by
  refine (bits_RotateLeft32.calls x y r _ h).mono ?_
  rintro e w' ⟨rfl, ⟨m, rfl⟩⟩
  exact ⟨rfl, n + m, by rw [World.drewN_drewN, Nat.add_assoc]⟩
def rotv (x y : Int) : Int := Go.bits .or .u32 (shl .u32 x (Go.bits .and .u64 (IntKind.u64.wrap y) 31)) (shr .u32 x (IntKind.u64.wrap (32 - Go.bits .and .u64 (IntKind.u64.wrap y) 31)))
theorem rot_all (x y : Int) : bits_RotateLeft32.f x y = some (rotv x y) := by
  unfold bits_RotateLeft32.f
  rw [if_pos (show (0 : Int) ≤ _ from bits_lo_u64 _ _ _), if_pos (show (0 : Int) ≤ IntKind.u64.wrap _ from (wrap_within .u64 _).1)]
  rfl
theorem rotq (x y : Int) {p n : Nat} {w : World} : Calls Tryz.prog 73 #[.int .u32 x, .int .i64 y] (w.drewN (p + n)) fun e w'' => e = .returned (.int .u32 (rotv x y)) ∧ ∃ m, w'' = w.drewN (p + m) := rot_quiet2 _ _ _ (rot_all x y)
theorem rotv_at (x y r : Int) (h : bits_RotateLeft32.f x y = some r) : rotv x y = r := Option.some.inj ((rot_all x y).symm.trans h)
def z8 : List Int := [0, 0, 0, 0, 0, 0, 0, 0]
def z64 : List Int := List.replicate 64 0
theorem zeros56_arr : zeros124 = arr z64 := by kernel_rfl
def sch1 (x0 x1 x2 x3 : Int) : Int := Go.bits .or .u32 (Go.bits .or .u32 (Go.bits .or .u32 (x0 % 4294967296 * 16777216 % 4294967296) (x1 % 4294967296 * 65536 % 4294967296)) (x2 % 4294967296 * 256 % 4294967296)) (x3 % 4294967296)
def sch2 (x16 x7 x y : Int) : Int := (((x16 + x7) % 4294967296 + Go.bits .xor .u32 (Go.bits .xor .u32 (rotl x 25) (rotl x 14)) (x / 8)) % 4294967296 + Go.bits .xor .u32 (Go.bits .xor .u32 (rotl y 15) (rotl y 13)) (y / 1024)) % 4294967296
def wv (b ws : List Int) (i : Nat) : Int := if i < 16 then sch1 (b.getD (4 * i) 0) (b.getD (4 * i + 1) 0) (b.getD (4 * i + 2) 0) (b.getD (4 * i + 3) 0) else sch2 (ws.getD (i - 16) 0) (ws.getD (i - 7) 0) (ws.getD (i - 15) 0) (ws.getD (i - 2) 0)
def sched (b : List Int) : Nat → List Int
  | 0 => z64
  | n + 1 => (sched b n).set n (wv b (sched b n) n)
theorem sched_len (b : List Int) : ∀ n, (sched b n).length = 64
  | 0 => rfl
  | n + 1 => by simp [sched, sched_len b n]
def upOf (t4 t5 t6 t7 k x : Int) : Int := (t7 + Go.bits .xor .u32 (Go.bits .xor .u32 (rotv t4 (-6)) (rotv t4 (-11))) (rotv t4 (-25)) + Go.bits .xor .u32 (Go.bits .and .u32 t4 t5) (Go.bits .and .u32 (Go.bits .xor .u32 IntKind.u32.max t4) t6) + k + x) % 4294967296
def downOf (t0 t1 t2 : Int) : Int := (Go.bits .xor .u32 (Go.bits .xor .u32 (rotv t0 (-2)) (rotv t0 (-13))) (rotv t0 (-22)) + Go.bits .xor .u32 (Go.bits .xor .u32 (Go.bits .and .u32 t0 t1) (Go.bits .and .u32 t0 t2)) (Go.bits .and .u32 t1 t2)) % 4294967296
def roundOf (t : List Int) (k x : Int) : List Int :=
  match t with
  | [t0, t1, t2, t3, t4, t5, t6, t7] => [(upOf t4 t5 t6 t7 k x + downOf t0 t1 t2) % 4294967296, t0, t1, t2, (t3 + upOf t4 t5 t6 t7 k x) % 4294967296, t4, t5, t6]
  | t => t
def roundsOf (s ws : List Int) : Nat → List Int
  | 0 => s
  | n + 1 => roundOf (roundsOf s ws n) (roundsL.getD n 0) (ws.getD n 0)
def addTo (s t : List Int) : Nat → List Int
  | 0 => s
  | n + 1 => (addTo s t n).set n (((addTo s t n).getD n 0 + t.getD n 0) % 4294967296)
def blockF (s b : List Int) : List Int := addTo s (roundsOf s (sched b 64) 64) 8
theorem addTo_len (s t : List Int) : ∀ n, (addTo s t n).length = s.length
  | 0 => rfl
  | n + 1 => by simp [addTo, addTo_len s t n]
def InG (w : World) : Prop := ∀ n, n < 64 → w.cell? ⟨0, n, none⟩ = some (.int .u32 (roundsL.getD n 0))
theorem InG.below {w w' : World} (h : InG w) (hb : Below w.heap.size w w') : InG w' := fun n hn => (hb.cell (World.block_lt_of_cell? w _ (h n hn))).trans (h n hn)
end Go.Proofs.YtpgbkeaaklglkaaGreatDoor.Q