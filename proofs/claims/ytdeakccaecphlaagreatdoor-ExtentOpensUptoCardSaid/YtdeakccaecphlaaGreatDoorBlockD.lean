/- What digest.block reckons, as a plain function; rows of numbers in memory. -/
import Derived.Test.YtdeakccaecphlaaGreatDoorDa
import Derived.Deep.RegionHeld3
import Derived.Deep.DrawnRows
import Derived.Deep.MidRow
import Derived.Lib.LaidTab
import Derived.Laws.Closers25b
namespace Go.Proofs.YtdeakccaecphlaaGreatDoor.Q
open Go.RowKit Go.Proofs.YtdeakccaecphlaaGreatDoorW.PrintWords Go.Proofs.YtdeakccaecphlaaGreatDoorW.PrintLast Go.Proofs.YtdeakccaecphlaaGreatDoorW.PrintMore
set_option linter.unusedVariables false
set_option linter.unusedSimpArgs false
set_option maxHeartbeats 10000000
set_option maxRecDepth 100000
def arr (xs : List Int) : Array Value := (xs.map (Value.int .u32)).toArray
theorem arr_size (xs : List Int) : (arr xs).size = xs.length := by simp [arr]
theorem arr_one (xs : List Int) : (arr xs).all (·.oneCell') = true := by
  rw [Array.all_eq_true_iff_forall_mem]
  intro v hv
  simp [arr] at hv
  obtain ⟨x, _, rfl⟩ := hv
  rfl
theorem arr_at {xs : List Int} {n : Nat} (h : n < xs.length) : (arr xs)[n]? = some (.int .u32 (xs.getD n 0)) := by
  simp [arr, List.getD, h]
def IsArr (W : World) (g : Nat) (t : Nat) (xs : List Int) : Prop := W.heap[g]? = some (.cells (arr xs) t (0, 0))
section
variable {W W' : World} {g t : Nat} {xs : List Int}
theorem IsArr.cell (h : IsArr W g t xs) {n : Nat} (hn : n < xs.length) : W.cell? ⟨g, n, none⟩ = some (.int .u32 (xs.getD n 0)) := (blk_cell h n).trans (arr_at hn)
theorem IsArr.frozen (h : IsArr W g t xs) (n : Nat) : W.frozen? ⟨g, n, none⟩ = false := blk_frozen h n
theorem IsArr.lt (h : IsArr W g t xs) : g < W.heap.size := blk_lt h
theorem IsArr.below (h : IsArr W g t xs) (hb : Below W.heap.size W W') : IsArr W' g t xs := blk_below h hb
theorem IsArr.alloc (h : IsArr W g t xs) (o : Obj) : IsArr (W.alloc o) g t xs := h.below (below_alloc (Below.refl _ _) o)
theorem IsArr.drewN (h : IsArr W g t xs) (n : Nat) : IsArr (W.drewN n) g t xs := h
theorem IsArr.drew (h : IsArr W g t xs) : IsArr W.drew g t xs := h
theorem IsArr.far (h : IsArr W g t xs) {q : Addr} (hq : g ≠ q.block) (v : Value) : IsArr (W.setCell q v) g t xs := (Below.heap_setCell _ _ _ _ hq).trans h
theorem IsArr.set (h : IsArr W g t xs) (n : Nat) (v : Int) : IsArr (W.setCell ⟨g, n, none⟩ (.int .u32 v)) g t (xs.set n v) := by
  unfold IsArr
  rw [setCell_eq_setRow W g n _ t (0, 0) _ h, setRow_heap W g _ _ t (0, 0) h]
  congr 2
  apply Array.ext'
  simp [arr, List.map_set]
theorem IsArr.row (h : IsArr W g t xs) (ys : List Int) : IsArr (W.setRow g (arr ys)) g t ys := setRow_heap W g _ _ t (0, 0) h
theorem IsArr.farRow (h : IsArr W g t xs) {k : Nat} (hk : g ≠ k) (cs : Array Value) : IsArr (W.setRow k cs) g t xs := (setRow_other W k g cs hk).trans h
end
theorem sizes125 : (Tryz.prog.info? 125).map (·.size) = some 8 := by kernel_rfl
theorem sizes143 : (Tryz.prog.info? 143).map (·.size) = some 64 := by kernel_rfl
theorem rot_at (x n : Int) (s : Int) (h : Go.bits .and .u64 (IntKind.u64.wrap n) 31 = s) (h0 : 0 ≤ s) (h1 : s ≤ 32) : bits_RotateLeft32.f x n = some (Go.bits .or .u32 (shl .u32 x s) (shr .u32 x (32 - s))) := by
  unfold bits_RotateLeft32.f
  have h2 : IntKind.u64.wrap (32 - s) = 32 - s := by
    have : (32 - s) % 18446744073709551616 = 32 - s := Int.emod_eq_of_lt (by omega) (by omega)
    exact this
  rw [h, if_pos h0, h2, if_pos (by omega)]
def rotl (x s : Int) : Int := Go.bits .or .u32 (shl .u32 x s) (shr .u32 x (32 - s))
theorem rot6 (x : Int) : bits_RotateLeft32.f x (-6) = some (rotl x 26) := rot_at x _ _ (by decide) (by decide) (by decide)
theorem rot11 (x : Int) : bits_RotateLeft32.f x (-11) = some (rotl x 21) := rot_at x _ _ (by decide) (by decide) (by decide)
theorem rot25 (x : Int) : bits_RotateLeft32.f x (-25) = some (rotl x 7) := rot_at x _ _ (by decide) (by decide) (by decide)
theorem rot2 (x : Int) : bits_RotateLeft32.f x (-2) = some (rotl x 30) := rot_at x _ _ (by decide) (by decide) (by decide)
theorem rot13 (x : Int) : bits_RotateLeft32.f x (-13) = some (rotl x 19) := rot_at x _ _ (by decide) (by decide) (by decide)
theorem rot22 (x : Int) : bits_RotateLeft32.f x (-22) = some (rotl x 10) := rot_at x _ _ (by decide) (by decide) (by decide)
theorem rot7 (x : Int) : bits_RotateLeft32.f x (-7) = some (rotl x 25) := rot_at x _ _ (by decide) (by decide) (by decide)
theorem rot18 (x : Int) : bits_RotateLeft32.f x (-18) = some (rotl x 14) := rot_at x _ _ (by decide) (by decide) (by decide)
theorem rot17 (x : Int) : bits_RotateLeft32.f x (-17) = some (rotl x 15) := rot_at x _ _ (by decide) (by decide) (by decide)
theorem rot19 (x : Int) : bits_RotateLeft32.f x (-19) = some (rotl x 13) := rot_at x _ _ (by decide) (by decide) (by decide)
theorem rot_quiet {n : Nat} {w : World} (x y r : Int) (h : bits_RotateLeft32.f x y = some r) : Calls Tryz.prog 109 #[.int .u32 x, .int .i64 y] (w.drewN n) fun e w'' => e = .returned (.int .u32 r) ∧ ∃ m, w'' = w.drewN m := by
  refine (bits_RotateLeft32.calls x y r _ h).mono ?_
  rintro e w' ⟨rfl, ⟨m, rfl⟩⟩
  exact ⟨rfl, n + m, by rw [World.drewN_drewN]⟩
theorem rot_quiet2 {p n : Nat} {w : World} (x y r : Int) (h : bits_RotateLeft32.f x y = some r) : Calls Tryz.prog 109 #[.int .u32 x, .int .i64 y] (w.drewN (p + n)) fun e w'' => e = .returned (.int .u32 r) ∧ ∃ m, w'' = w.drewN (p + m) := by
  refine (bits_RotateLeft32.calls x y r _ h).mono ?_
  rintro e w' ⟨rfl, ⟨m, rfl⟩⟩
  exact ⟨rfl, n + m, by rw [World.drewN_drewN, Nat.add_assoc]⟩
def rotv (x y : Int) : Int := Go.bits .or .u32 (shl .u32 x (Go.bits .and .u64 (IntKind.u64.wrap y) 31)) (shr .u32 x (IntKind.u64.wrap (32 - Go.bits .and .u64 (IntKind.u64.wrap y) 31)))
theorem rot_all (x y : Int) : bits_RotateLeft32.f x y = some (rotv x y) := by
  unfold bits_RotateLeft32.f
  rw [if_pos (show (0 : Int) ≤ _ from bits_lo_u64 _ _ _), if_pos (show (0 : Int) ≤ IntKind.u64.wrap _ from (wrap_within .u64 _).1)]
  rfl
theorem rotq (x y : Int) {p n : Nat} {w : World} : Calls Tryz.prog 109 #[.int .u32 x, .int .i64 y] (w.drewN (p + n)) fun e w'' => e = .returned (.int .u32 (rotv x y)) ∧ ∃ m, w'' = w.drewN (p + m) := rot_quiet2 _ _ _ (rot_all x y)
theorem rotv_at (x y r : Int) (h : bits_RotateLeft32.f x y = some r) : rotv x y = r := Option.some.inj ((rot_all x y).symm.trans h)
def z8 : List Int := [0, 0, 0, 0, 0, 0, 0, 0]
def z64 : List Int := List.replicate 64 0
theorem zeros56_arr : zeros143 = arr z64 := by kernel_rfl
def sch1 (x0 x1 x2 x3 : Int) : Int := Go.bits .or .u32 (Go.bits .or .u32 (Go.bits .or .u32 (x0 % 4294967296 * 16777216 % 4294967296) (x1 % 4294967296 * 65536 % 4294967296)) (x2 % 4294967296 * 256 % 4294967296)) (x3 % 4294967296)
def sch2 (x16 x7 x y : Int) : Int := (((x16 + x7) % 4294967296 + Go.bits .xor .u32 (Go.bits .xor .u32 (rotl x 25) (rotl x 14)) (x / 8)) % 4294967296 + Go.bits .xor .u32 (Go.bits .xor .u32 (rotl y 15) (rotl y 13)) (y / 1024)) % 4294967296
def wv (b ws : List Int) (i : Nat) : Int := if i < 16 then sch1 (b.getD (4 * i) 0) (b.getD (4 * i + 1) 0) (b.getD (4 * i + 2) 0) (b.getD (4 * i + 3) 0) else sch2 (ws.getD (i - 16) 0) (ws.getD (i - 7) 0) (ws.getD (i - 15) 0) (ws.getD (i - 2) 0)
def sched (b : List Int) : Nat → List Int
  | 0 => z64
  | n + 1 => (sched b n).set n (wv b (sched b n) n)
theorem sched_len (b : List Int) : ∀ n, (sched b n).length = 64
  | 0 => rfl
  | n + 1 => by simp [sched, sched_len b n]
def upOf (t4 t5 t6 t7 k x : Int) : Int := (t7 + Go.bits .xor .u32 (Go.bits .xor .u32 (rotv t4 (-6)) (rotv t4 (-11))) (rotv t4 (-25)) + Go.bits .xor .u32 (Go.bits .and .u32 t4 t5) (Go.bits .and .u32 (Go.bits .xor .u32 IntKind.u32.max t4) t6) + k + x) % 4294967296
def downOf (t0 t1 t2 : Int) : Int := (Go.bits .xor .u32 (Go.bits .xor .u32 (rotv t0 (-2)) (rotv t0 (-13))) (rotv t0 (-22)) + Go.bits .xor .u32 (Go.bits .xor .u32 (Go.bits .and .u32 t0 t1) (Go.bits .and .u32 t0 t2)) (Go.bits .and .u32 t1 t2)) % 4294967296
def roundOf (t : List Int) (k x : Int) : List Int :=
  match t with
  | [t0, t1, t2, t3, t4, t5, t6, t7] => [(upOf t4 t5 t6 t7 k x + downOf t0 t1 t2) % 4294967296, t0, t1, t2, (t3 + upOf t4 t5 t6 t7 k x) % 4294967296, t4, t5, t6]
  | t => t
def roundsOf (s ws : List Int) : Nat → List Int
  | 0 => s
  | n + 1 => roundOf (roundsOf s ws n) (roundsL.getD n 0) (ws.getD n 0)
def addTo (s t : List Int) : Nat → List Int
  | 0 => s
  | n + 1 => (addTo s t n).set n (((addTo s t n).getD n 0 + t.getD n 0) % 4294967296)
def blockF (s b : List Int) : List Int := addTo s (roundsOf s (sched b 64) 64) 8
theorem addTo_len (s t : List Int) : ∀ n, (addTo s t n).length = s.length
  | 0 => rfl
  | n + 1 => by simp [addTo, addTo_len s t n]
def InG (w : World) : Prop := ∀ n, n < 64 → w.cell? ⟨0, n, none⟩ = some (.int .u32 (roundsL.getD n 0))
theorem InG.below {w w' : World} (h : InG w) (hb : Below w.heap.size w w') : InG w' := fun n hn => (hb.cell (World.block_lt_of_cell? w _ (h n hn))).trans (h n hn)
end Go.Proofs.YtdeakccaecphlaaGreatDoor.Q
namespace Go.Proofs.YtdeakccaecphlaaGreatDoor.Q
open Go.RowKit Go.Proofs.YtdeakccaecphlaaGreatDoorW.PrintWords Go.Proofs.YtdeakccaecphlaaGreatDoorW.PrintLast Go.Proofs.YtdeakccaecphlaaGreatDoorW.PrintMore
set_option linter.unusedVariables false
set_option linter.unusedSimpArgs false
set_option maxHeartbeats 10000000
set_option maxRecDepth 100000
theorem below_cell {w w' : World} {a : Addr} {v : Value} (h : w.cell? a = some v) (hb : Below w.heap.size w w') : w'.cell? a = some v := (hb.cell (World.block_lt_of_cell? w _ h)).trans h
theorem row_cells {w : World} {A : Option Addr} {n : Nat} {b : List Int} (h : Kd.C (Kd.int .u8) w A n b) (h0 : 0 < n) (hb : b.length = n) : ∃ ad, A = some ad ∧ ∀ i, i < n → w.cell? (ad.add i) = some (.int .u8 (b.getD i 0)) := by
  obtain ⟨ad, e, _⟩ := Kd.at_int h 0 (by omega) (by omega)
  refine ⟨ad, e, fun i hi => ?_⟩
  obtain ⟨ad', e', c⟩ := Kd.at_int h (i : Int) (by omega) (by omega)
  obtain rfl : ad = ad' := by rw [e] at e'; injection e'
  exact c
theorem digest_block.calls (s0 s1 s2 s3 s4 s5 s6 s7 : Int) (b : List Int) (ad : Addr) (c1 : Nat) (w : World) (hb : b.length = 64) (hr1 : ∀ i, i < 64 → w.cell? (ad.add i) = some (.int .u8 (b.getD i 0))) (hc1 : 64 ≤ c1) (hG : InG w) :
    Calls Tryz.prog 93 #[.agg (arr [s0, s1, s2, s3, s4, s5, s6, s7]), .slice (some ad) 64 c1] w fun e w' => e = .returned (.agg (arr (blockF [s0, s1, s2, s3, s4, s5, s6, s7] b))) ∧ Below w.heap.size w w' := by
  have hu43 := Tryz.underlying125
  have hu56 := Tryz.underlying143
  have HR1 := Aside0.mk hr1
  have HL := Aside0.mk hb
  have HC1 := Aside0.mk hc1
  have HG := Aside0.mk hG
  clear hr1 hc1 hb hG
  have hnow : Aside0 (IsArr (w.alloc (.cells (arr [s0, s1, s2, s3, s4, s5, s6, s7]) 125)) w.heap.size 125 [s0, s1, s2, s3, s4, s5, s6, s7]) := ⟨heap_alloc_new w _⟩
  go_enter Tryz.func93, Tryz.ntmps93
  go_wp2_with (first
    | ((with_reducible refine gate_dst (N := 2) rfl ?_); refine box_event rfl (N := 2) rfl (cs := arr [s0, s1, s2, s3, s4, s5, s6, s7]) (t := 125) ?hr ?_; (case hr => first | (go_simp; done) | (go_simp; rfl)); intro g2 hg w1 hk2 hB1
       have S2 : Aside0 (IsArr w1 g2 125 [s0, s1, s2, s3, s4, s5, s6, s7]) := ⟨hk2⟩
       have G2 : Aside0 (w.heap.size ≤ g2) := ⟨by omega⟩
       have B1 := Aside0.mk hB1
       clear hk2 hB1 hg)
    | ((with_reducible refine gate_dst (N := 4) rfl ?_); refine box_event rfl (N := 4) rfl (cs := arr z8) (t := 125) ?hr ?_; (case hr => first | (go_simp; done) | (go_simp; rfl)); intro g4 hg w2 hk4 hB2
       have S4 : Aside0 (IsArr w2 g4 125 z8) := ⟨hk4⟩
       have G4 : Aside0 (w.heap.size ≤ g4) := ⟨by have := B1.out.size; omega⟩
       have B2 : Aside0 (Below w.heap.size w w2) := ⟨below_step B1.out hB2⟩
       have S2' : Aside0 (IsArr w2 g2 125 [s0, s1, s2, s3, s4, s5, s6, s7]) := ⟨S2.out.below hB2⟩
       have N24 : Aside0 (g2 ≠ g4) := ⟨by have := S2.out.lt; omega⟩
       clear S2 hk4 hB2 hg)
    | ((with_reducible refine gate_dst (N := 5) rfl ?_); refine box_event rfl (N := 5) rfl (cs := zeros143) (t := 143) (run_alloc143 _ _ _ rfl) ?_; intro g5 hg w3 hk5 hB3
       have S5 : Aside0 (IsArr w3 g5 143 z64) := ⟨by rw [zeros56_arr] at hk5; exact hk5⟩
       have G5 : Aside0 (w.heap.size ≤ g5) := ⟨by have := B2.out.size; omega⟩
       have B3 : Aside0 (Below w.heap.size w w3) := ⟨below_step B2.out hB3⟩
       have T2 : Aside0 (IsArr w3 g2 125 [s0, s1, s2, s3, s4, s5, s6, s7]) := ⟨S2'.out.below hB3⟩
       have T4 : Aside0 (IsArr w3 g4 125 z8) := ⟨S4.out.below hB3⟩
       have N25 : Aside0 (g2 ≠ g5) := ⟨by have := S2'.out.lt; omega⟩
       have N45 : Aside0 (g4 ≠ g5) := ⟨by have := S4.out.lt; omega⟩
       clear S2' S4 hk5 hB3 hg B1 B2))
  go_loopg [17] 17 (fun kq v17 w' => ∃ n : Nat, v17 = .int .i64 (n : Int) ∧ Aside0 (n + kq = 17 ∧ n ≤ 16) ∧ Aside0 (IsArr w' g2 125 [s0, s1, s2, s3, s4, s5, s6, s7]) ∧ Aside0 (IsArr w' g4 125 z8) ∧ Aside0 (IsArr w' g5 143 (sched b n)) ∧ Aside0 (Below w.heap.size w w'))
  case atStart => exact ⟨0, rfl, ⟨by omega, by omega⟩, T2, T4, S5, B3⟩
  case round =>
    clear T2 T4 S5 B3
    obtain ⟨n, rfl, HN, T2, T4, T5, B3⟩ := hrel
    cases gk with
    | zero => have := HN.out; omega
    | succ k1 =>
      by_cases hn : n < 16
      · have hlt : ((n : Int) < 16) = True := eq_true (by omega)
        obtain ⟨j0, h0⟩ : ∃ j : Nat, j = 4 * n := ⟨_, rfl⟩
        obtain ⟨j1, h1⟩ : ∃ j : Nat, j = j0 + 1 := ⟨_, rfl⟩
        obtain ⟨j2, h2⟩ : ∃ j : Nat, j = j0 + 2 := ⟨_, rfl⟩
        obtain ⟨j3, h3⟩ : ∃ j : Nat, j = j0 + 3 := ⟨_, rfl⟩
        have e0 : IntKind.i64.wrap (4 * (n : Int)) = (j0 : Int) := (i64_w _).trans ((IntWalk.wrap64_in _ (by omega)).trans (by omega))
        have e1 : IntKind.i64.wrap ((j0 : Int) + 1) = (j1 : Int) := (i64_w _).trans ((IntWalk.wrap64_in _ (by omega)).trans (by omega))
        have e2 : IntKind.i64.wrap ((j0 : Int) + 2) = (j2 : Int) := (i64_w _).trans ((IntWalk.wrap64_in _ (by omega)).trans (by omega))
        have e3 : IntKind.i64.wrap ((j0 : Int) + 3) = (j3 : Int) := (i64_w _).trans ((IntWalk.wrap64_in _ (by omega)).trans (by omega))
        have c0 := below_cell (HR1.out j0 (by omega)) B3.out
        have c1 := below_cell (HR1.out j1 (by omega)) B3.out
        have c2 := below_cell (HR1.out j2 (by omega)) B3.out
        have c3 := below_cell (HR1.out j3 (by omega)) B3.out
        have p0 : ((j0 : Int) < 64) = True := eq_true (by omega)
        have p1 : ((j1 : Int) < 64) = True := eq_true (by omega)
        have p2 : ((j2 : Int) < 64) = True := eq_true (by omega)
        have p3 : ((j3 : Int) < 64) = True := eq_true (by omega)
        have pn : ((n : Int) < 64) = True := eq_true (by omega)
        have cw := T5.out.cell (n := n) (by rw [sched_len]; omega)
        have fw := T5.out.frozen n
        have J : Aside0 (j0 = 4 * n ∧ j1 = j0 + 1 ∧ j2 = j0 + 2 ∧ j3 = j0 + 3) := ⟨h0, h1, h2, h3⟩
        clear h0 h1 h2 h3
        obtain ⟨x0, y0⟩ : ∃ x : Int, x = b.getD j0 0 := ⟨_, rfl⟩
        obtain ⟨x1, y1⟩ : ∃ x : Int, x = b.getD j1 0 := ⟨_, rfl⟩
        obtain ⟨x2, y2⟩ : ∃ x : Int, x = b.getD j2 0 := ⟨_, rfl⟩
        obtain ⟨x3, y3⟩ : ∃ x : Int, x = b.getD j3 0 := ⟨_, rfl⟩
        rw [← y0] at c0
        rw [← y1] at c1
        rw [← y2] at c2
        rw [← y3] at c3
        have Y0 := Aside0.mk y0
        have Y1 := Aside0.mk y1
        have Y2 := Aside0.mk y2
        have Y3 := Aside0.mk y3
        clear y0 y1 y2 y3
        go_wp2_with (fail)
        refine start_ (n := 36) (S := fun w' => w'.cell? (ad.add j0) = some (.int .u8 x0) ∧ w'.cell? (ad.add j1) = some (.int .u8 x1) ∧ w'.cell? (ad.add j2) = some (.int .u8 x2) ∧ w'.cell? (ad.add j3) = some (.int .u8 x3)) (ds := [35]) #[false, false, false, false, false, false, false, false, false, false, false, false, false, false, false, false, false, false, false, false, false, false, false, false, false, false, false, false, false, false, false, false, false, false, false, false] (by kernel_rfl) rfl rfl ⟨c0, c1, c2, c3⟩ (fun hHeld => ?_)
        refine pure_ (i := 0) (N := some 20) (v := ?_) (a' := ?_) #[true, false, false, false, false, false, false, false, false, false, false, false, false, false, false, false, false, false, false, false, false, false, false, false, false, false, false, false, false, false, false, false, false, false, false, false] rfl rfl (by kernel_rfl) (fun _ _ _ h => h) (Or.inl ⟨by rfl, ?_⟩) ?_ ?_
        rotate_left
        · intro w'
          go_simp
          with_reducible rfl
        rotate_left
        · simp only [Act.put, List.setIfInBounds_toArray, List.set_cons_zero, List.set_cons_succ]
          rfl
        refine pure_ (i := 1) (N := some 21) (v := ?_) (a' := ?_) #[true, true, false, false, false, false, false, false, false, false, false, false, false, false, false, false, false, false, false, false, false, false, false, false, false, false, false, false, false, false, false, false, false, false, false, false] rfl rfl (by kernel_rfl) (fun _ _ _ h => h) (Or.inl ⟨by rfl, ?_⟩) ?_ ?_
        rotate_left
        · intro w'
          go_simp
          with_reducible rfl
        rotate_left
        · simp only [Act.put, List.setIfInBounds_toArray, List.set_cons_zero, List.set_cons_succ]
          rfl
        refine pure_ (i := 2) (N := some 22) (v := ?_) (a' := ?_) #[true, true, true, false, false, false, false, false, false, false, false, false, false, false, false, false, false, false, false, false, false, false, false, false, false, false, false, false, false, false, false, false, false, false, false, false] rfl rfl (by kernel_rfl) (fun _ _ _ h => h) (Or.inl ⟨by rfl, ?_⟩) ?_ ?_
        rotate_left
        · intro w'
          go_simp
          with_reducible rfl
        rotate_left
        · simp only [Act.put, List.setIfInBounds_toArray, List.set_cons_zero, List.set_cons_succ]
          rfl
        refine pure_ (i := 3) (N := some 23) (v := ?_) (a' := ?_) #[true, true, true, true, false, false, false, false, false, false, false, false, false, false, false, false, false, false, false, false, false, false, false, false, false, false, false, false, false, false, false, false, false, false, false, false] rfl rfl (by kernel_rfl) (fun _ _ _ h => h) (Or.inl ⟨by rfl, ?_⟩) ?_ ?_
        rotate_left
        · intro w'
          go_simp
          with_reducible rfl
        rotate_left
        · simp only [Act.put, List.setIfInBounds_toArray, List.set_cons_zero, List.set_cons_succ]
          rfl
        refine pure_ (i := 4) (N := some 24) (v := ?_) (a' := ?_) #[true, true, true, true, true, false, false, false, false, false, false, false, false, false, false, false, false, false, false, false, false, false, false, false, false, false, false, false, false, false, false, false, false, false, false, false] rfl rfl (by kernel_rfl) (fun _ _ _ h => h) (Or.inl ⟨by rfl, ?_⟩) ?_ ?_
        rotate_left
        · intro w'
          go_simp
          with_reducible rfl
        rotate_left
        · simp only [Act.put, List.setIfInBounds_toArray, List.set_cons_zero, List.set_cons_succ]
          rfl
        refine take_ (i := 5) (N := some 25) (v := ?_) (a' := ?_) #[true, true, true, true, true, true, false, false, false, false, false, false, false, false, false, false, false, false, false, false, false, false, false, false, false, false, false, false, false, false, false, false, false, false, false, false] rfl rfl (by kernel_rfl) (fun _ _ _ h => h) (Or.inl ⟨by rfl, ?_⟩) (by first | exact hHeld | assumption) ?_ ?_
        rotate_left
        · rintro w' ⟨s0, s1, s2, s3⟩
          go_simp
          with_reducible rfl
        rotate_left
        · simp only [Act.put, List.setIfInBounds_toArray, List.set_cons_zero, List.set_cons_succ]
          rfl
        refine pure_ (i := 6) (N := some 26) (v := ?_) (a' := ?_) #[true, true, true, true, true, true, true, false, false, false, false, false, false, false, false, false, false, false, false, false, false, false, false, false, false, false, false, false, false, false, false, false, false, false, false, false] rfl rfl (by kernel_rfl) (fun _ _ _ h => h) (Or.inl ⟨by rfl, ?_⟩) ?_ ?_
        rotate_left
        · intro w'
          go_simp
          with_reducible rfl
        rotate_left
        · simp only [Act.put, List.setIfInBounds_toArray, List.set_cons_zero, List.set_cons_succ]
          rfl
        refine pure_ (i := 7) (N := some 27) (v := ?_) (a' := ?_) #[true, true, true, true, true, true, true, true, false, false, false, false, false, false, false, false, false, false, false, false, false, false, false, false, false, false, false, false, false, false, false, false, false, false, false, false] rfl rfl (by kernel_rfl) (fun _ _ _ h => h) (Or.inl ⟨by rfl, ?_⟩) ?_ ?_
        rotate_left
        · intro w'
          go_simp
          with_reducible rfl
        rotate_left
        · simp only [Act.put, List.setIfInBounds_toArray, List.set_cons_zero, List.set_cons_succ]
          rfl
        refine pure_ (i := 8) (N := some 28) (v := ?_) (a' := ?_) #[true, true, true, true, true, true, true, true, true, false, false, false, false, false, false, false, false, false, false, false, false, false, false, false, false, false, false, false, false, false, false, false, false, false, false, false] rfl rfl (by kernel_rfl) (fun _ _ _ h => h) (Or.inl ⟨by rfl, ?_⟩) ?_ ?_
        rotate_left
        · intro w'
          go_simp
          with_reducible rfl
        rotate_left
        · simp only [Act.put, List.setIfInBounds_toArray, List.set_cons_zero, List.set_cons_succ]
          rfl
        refine pure_ (i := 9) (N := some 29) (v := ?_) (a' := ?_) #[true, true, true, true, true, true, true, true, true, true, false, false, false, false, false, false, false, false, false, false, false, false, false, false, false, false, false, false, false, false, false, false, false, false, false, false] rfl rfl (by kernel_rfl) (fun _ _ _ h => h) (Or.inl ⟨by rfl, ?_⟩) ?_ ?_
        rotate_left
        · intro w'
          go_simp
          with_reducible rfl
        rotate_left
        · simp only [Act.put, List.setIfInBounds_toArray, List.set_cons_zero, List.set_cons_succ]
          rfl
        refine pure_ (i := 10) (N := some 30) (v := ?_) (a' := ?_) #[true, true, true, true, true, true, true, true, true, true, true, false, false, false, false, false, false, false, false, false, false, false, false, false, false, false, false, false, false, false, false, false, false, false, false, false] rfl rfl (by kernel_rfl) (fun _ _ _ h => h) (Or.inl ⟨by rfl, ?_⟩) ?_ ?_
        rotate_left
        · intro w'
          go_simp
          with_reducible rfl
        rotate_left
        · simp only [Act.put, List.setIfInBounds_toArray, List.set_cons_zero, List.set_cons_succ]
          rfl
        refine pure_ (i := 11) (N := some 31) (v := ?_) (a' := ?_) #[true, true, true, true, true, true, true, true, true, true, true, true, false, false, false, false, false, false, false, false, false, false, false, false, false, false, false, false, false, false, false, false, false, false, false, false] rfl rfl (by kernel_rfl) (fun _ _ _ h => h) (Or.inl ⟨by rfl, ?_⟩) ?_ ?_
        rotate_left
        · intro w'
          go_simp
          with_reducible rfl
        rotate_left
        · simp only [Act.put, List.setIfInBounds_toArray, List.set_cons_zero, List.set_cons_succ]
          rfl
        refine pure_ (i := 12) (N := some 32) (v := ?_) (a' := ?_) #[true, true, true, true, true, true, true, true, true, true, true, true, true, false, false, false, false, false, false, false, false, false, false, false, false, false, false, false, false, false, false, false, false, false, false, false] rfl rfl (by kernel_rfl) (fun _ _ _ h => h) (Or.inl ⟨by rfl, ?_⟩) ?_ ?_
        rotate_left
        · intro w'
          go_simp
          with_reducible rfl
        rotate_left
        · simp only [Act.put, List.setIfInBounds_toArray, List.set_cons_zero, List.set_cons_succ]
          rfl
        refine take_ (i := 13) (N := some 33) (v := ?_) (a' := ?_) #[true, true, true, true, true, true, true, true, true, true, true, true, true, true, false, false, false, false, false, false, false, false, false, false, false, false, false, false, false, false, false, false, false, false, false, false] rfl rfl (by kernel_rfl) (fun _ _ _ h => h) (Or.inl ⟨by rfl, ?_⟩) (by first | exact hHeld | assumption) ?_ ?_
        rotate_left
        · rintro w' ⟨s0, s1, s2, s3⟩
          go_simp
          with_reducible rfl
        rotate_left
        · simp only [Act.put, List.setIfInBounds_toArray, List.set_cons_zero, List.set_cons_succ]
          rfl
        refine pure_ (i := 14) (N := some 34) (v := ?_) (a' := ?_) #[true, true, true, true, true, true, true, true, true, true, true, true, true, true, true, false, false, false, false, false, false, false, false, false, false, false, false, false, false, false, false, false, false, false, false, false] rfl rfl (by kernel_rfl) (fun _ _ _ h => h) (Or.inl ⟨by rfl, ?_⟩) ?_ ?_
        rotate_left
        · intro w'
          go_simp
          with_reducible rfl
        rotate_left
        · simp only [Act.put, List.setIfInBounds_toArray, List.set_cons_zero, List.set_cons_succ]
          rfl
        refine pure_ (i := 15) (N := some 35) (v := ?_) (a' := ?_) #[true, true, true, true, true, true, true, true, true, true, true, true, true, true, true, true, false, false, false, false, false, false, false, false, false, false, false, false, false, false, false, false, false, false, false, false] rfl rfl (by kernel_rfl) (fun _ _ _ h => h) (Or.inl ⟨by rfl, ?_⟩) ?_ ?_
        rotate_left
        · intro w'
          go_simp
          with_reducible rfl
        rotate_left
        · simp only [Act.put, List.setIfInBounds_toArray, List.set_cons_zero, List.set_cons_succ]
          rfl
        refine pure_ (i := 16) (N := some 36) (v := ?_) (a' := ?_) #[true, true, true, true, true, true, true, true, true, true, true, true, true, true, true, true, true, false, false, false, false, false, false, false, false, false, false, false, false, false, false, false, false, false, false, false] rfl rfl (by kernel_rfl) (fun _ _ _ h => h) (Or.inl ⟨by rfl, ?_⟩) ?_ ?_
        rotate_left
        · intro w'
          go_simp
          with_reducible rfl
        rotate_left
        · simp only [Act.put, List.setIfInBounds_toArray, List.set_cons_zero, List.set_cons_succ]
          rfl
        refine pure_ (i := 17) (N := some 37) (v := ?_) (a' := ?_) #[true, true, true, true, true, true, true, true, true, true, true, true, true, true, true, true, true, true, false, false, false, false, false, false, false, false, false, false, false, false, false, false, false, false, false, false] rfl rfl (by kernel_rfl) (fun _ _ _ h => h) (Or.inl ⟨by rfl, ?_⟩) ?_ ?_
        rotate_left
        · intro w'
          go_simp
          with_reducible rfl
        rotate_left
        · simp only [Act.put, List.setIfInBounds_toArray, List.set_cons_zero, List.set_cons_succ]
          rfl
        refine pure_ (i := 18) (N := some 38) (v := ?_) (a' := ?_) #[true, true, true, true, true, true, true, true, true, true, true, true, true, true, true, true, true, true, true, false, false, false, false, false, false, false, false, false, false, false, false, false, false, false, false, false] rfl rfl (by kernel_rfl) (fun _ _ _ h => h) (Or.inl ⟨by rfl, ?_⟩) ?_ ?_
        rotate_left
        · intro w'
          go_simp
          with_reducible rfl
        rotate_left
        · simp only [Act.put, List.setIfInBounds_toArray, List.set_cons_zero, List.set_cons_succ]
          rfl
        refine pure_ (i := 19) (N := some 39) (v := ?_) (a' := ?_) #[true, true, true, true, true, true, true, true, true, true, true, true, true, true, true, true, true, true, true, true, false, false, false, false, false, false, false, false, false, false, false, false, false, false, false, false] rfl rfl (by kernel_rfl) (fun _ _ _ h => h) (Or.inl ⟨by rfl, ?_⟩) ?_ ?_
        rotate_left
        · intro w'
          go_simp
          with_reducible rfl
        rotate_left
        · simp only [Act.put, List.setIfInBounds_toArray, List.set_cons_zero, List.set_cons_succ]
          rfl
        refine pure_ (i := 20) (N := some 40) (v := ?_) (a' := ?_) #[true, true, true, true, true, true, true, true, true, true, true, true, true, true, true, true, true, true, true, true, true, false, false, false, false, false, false, false, false, false, false, false, false, false, false, false] rfl rfl (by kernel_rfl) (fun _ _ _ h => h) (Or.inl ⟨by rfl, ?_⟩) ?_ ?_
        rotate_left
        · intro w'
          go_simp
          with_reducible rfl
        rotate_left
        · simp only [Act.put, List.setIfInBounds_toArray, List.set_cons_zero, List.set_cons_succ]
          rfl
        refine pure_ (i := 21) (N := some 41) (v := ?_) (a' := ?_) #[true, true, true, true, true, true, true, true, true, true, true, true, true, true, true, true, true, true, true, true, true, true, false, false, false, false, false, false, false, false, false, false, false, false, false, false] rfl rfl (by kernel_rfl) (fun _ _ _ h => h) (Or.inl ⟨by rfl, ?_⟩) ?_ ?_
        rotate_left
        · intro w'
          go_simp
          with_reducible rfl
        rotate_left
        · simp only [Act.put, List.setIfInBounds_toArray, List.set_cons_zero, List.set_cons_succ]
          rfl
        refine take_ (i := 22) (N := some 42) (v := ?_) (a' := ?_) #[true, true, true, true, true, true, true, true, true, true, true, true, true, true, true, true, true, true, true, true, true, true, true, false, false, false, false, false, false, false, false, false, false, false, false, false] rfl rfl (by kernel_rfl) (fun _ _ _ h => h) (Or.inl ⟨by rfl, ?_⟩) (by first | exact hHeld | assumption) ?_ ?_
        rotate_left
        · rintro w' ⟨s0, s1, s2, s3⟩
          go_simp
          with_reducible rfl
        rotate_left
        · simp only [Act.put, List.setIfInBounds_toArray, List.set_cons_zero, List.set_cons_succ]
          rfl
        refine pure_ (i := 23) (N := some 43) (v := ?_) (a' := ?_) #[true, true, true, true, true, true, true, true, true, true, true, true, true, true, true, true, true, true, true, true, true, true, true, true, false, false, false, false, false, false, false, false, false, false, false, false] rfl rfl (by kernel_rfl) (fun _ _ _ h => h) (Or.inl ⟨by rfl, ?_⟩) ?_ ?_
        rotate_left
        · intro w'
          go_simp
          with_reducible rfl
        rotate_left
        · simp only [Act.put, List.setIfInBounds_toArray, List.set_cons_zero, List.set_cons_succ]
          rfl
        refine pure_ (i := 24) (N := some 44) (v := ?_) (a' := ?_) #[true, true, true, true, true, true, true, true, true, true, true, true, true, true, true, true, true, true, true, true, true, true, true, true, true, false, false, false, false, false, false, false, false, false, false, false] rfl rfl (by kernel_rfl) (fun _ _ _ h => h) (Or.inl ⟨by rfl, ?_⟩) ?_ ?_
        rotate_left
        · intro w'
          go_simp
          with_reducible rfl
        rotate_left
        · simp only [Act.put, List.setIfInBounds_toArray, List.set_cons_zero, List.set_cons_succ]
          rfl
        refine pure_ (i := 25) (N := some 45) (v := ?_) (a' := ?_) #[true, true, true, true, true, true, true, true, true, true, true, true, true, true, true, true, true, true, true, true, true, true, true, true, true, true, false, false, false, false, false, false, false, false, false, false] rfl rfl (by kernel_rfl) (fun _ _ _ h => h) (Or.inl ⟨by rfl, ?_⟩) ?_ ?_
        rotate_left
        · intro w'
          go_simp
          with_reducible rfl
        rotate_left
        · simp only [Act.put, List.setIfInBounds_toArray, List.set_cons_zero, List.set_cons_succ]
          rfl
        refine pure_ (i := 26) (N := some 46) (v := ?_) (a' := ?_) #[true, true, true, true, true, true, true, true, true, true, true, true, true, true, true, true, true, true, true, true, true, true, true, true, true, true, true, false, false, false, false, false, false, false, false, false] rfl rfl (by kernel_rfl) (fun _ _ _ h => h) (Or.inl ⟨by rfl, ?_⟩) ?_ ?_
        rotate_left
        · intro w'
          go_simp
          with_reducible rfl
        rotate_left
        · simp only [Act.put, List.setIfInBounds_toArray, List.set_cons_zero, List.set_cons_succ]
          rfl
        refine pure_ (i := 27) (N := some 47) (v := ?_) (a' := ?_) #[true, true, true, true, true, true, true, true, true, true, true, true, true, true, true, true, true, true, true, true, true, true, true, true, true, true, true, true, false, false, false, false, false, false, false, false] rfl rfl (by kernel_rfl) (fun _ _ _ h => h) (Or.inl ⟨by rfl, ?_⟩) ?_ ?_
        rotate_left
        · intro w'
          go_simp
          with_reducible rfl
        rotate_left
        · simp only [Act.put, List.setIfInBounds_toArray, List.set_cons_zero, List.set_cons_succ]
          rfl
        refine pure_ (i := 28) (N := some 48) (v := ?_) (a' := ?_) #[true, true, true, true, true, true, true, true, true, true, true, true, true, true, true, true, true, true, true, true, true, true, true, true, true, true, true, true, true, false, false, false, false, false, false, false] rfl rfl (by kernel_rfl) (fun _ _ _ h => h) (Or.inl ⟨by rfl, ?_⟩) ?_ ?_
        rotate_left
        · intro w'
          go_simp
          with_reducible rfl
        rotate_left
        · simp only [Act.put, List.setIfInBounds_toArray, List.set_cons_zero, List.set_cons_succ]
          rfl
        refine pure_ (i := 29) (N := some 49) (v := ?_) (a' := ?_) #[true, true, true, true, true, true, true, true, true, true, true, true, true, true, true, true, true, true, true, true, true, true, true, true, true, true, true, true, true, true, false, false, false, false, false, false] rfl rfl (by kernel_rfl) (fun _ _ _ h => h) (Or.inl ⟨by rfl, ?_⟩) ?_ ?_
        rotate_left
        · intro w'
          go_simp
          with_reducible rfl
        rotate_left
        · simp only [Act.put, List.setIfInBounds_toArray, List.set_cons_zero, List.set_cons_succ]
          rfl
        refine pure_ (i := 30) (N := some 50) (v := ?_) (a' := ?_) #[true, true, true, true, true, true, true, true, true, true, true, true, true, true, true, true, true, true, true, true, true, true, true, true, true, true, true, true, true, true, true, false, false, false, false, false] rfl rfl (by kernel_rfl) (fun _ _ _ h => h) (Or.inl ⟨by rfl, ?_⟩) ?_ ?_
        rotate_left
        · intro w'
          go_simp
          with_reducible rfl
        rotate_left
        · simp only [Act.put, List.setIfInBounds_toArray, List.set_cons_zero, List.set_cons_succ]
          rfl
        refine take_ (i := 31) (N := some 51) (v := ?_) (a' := ?_) #[true, true, true, true, true, true, true, true, true, true, true, true, true, true, true, true, true, true, true, true, true, true, true, true, true, true, true, true, true, true, true, true, false, false, false, false] rfl rfl (by kernel_rfl) (fun _ _ _ h => h) (Or.inl ⟨by rfl, ?_⟩) (by first | exact hHeld | assumption) ?_ ?_
        rotate_left
        · rintro w' ⟨s0, s1, s2, s3⟩
          go_simp
          with_reducible rfl
        rotate_left
        · simp only [Act.put, List.setIfInBounds_toArray, List.set_cons_zero, List.set_cons_succ]
          rfl
        refine pure_ (i := 32) (N := some 52) (v := ?_) (a' := ?_) #[true, true, true, true, true, true, true, true, true, true, true, true, true, true, true, true, true, true, true, true, true, true, true, true, true, true, true, true, true, true, true, true, true, false, false, false] rfl rfl (by kernel_rfl) (fun _ _ _ h => h) (Or.inl ⟨by rfl, ?_⟩) ?_ ?_
        rotate_left
        · intro w'
          go_simp
          with_reducible rfl
        rotate_left
        · simp only [Act.put, List.setIfInBounds_toArray, List.set_cons_zero, List.set_cons_succ]
          rfl
        refine pure_ (i := 33) (N := some 53) (v := ?_) (a' := ?_) #[true, true, true, true, true, true, true, true, true, true, true, true, true, true, true, true, true, true, true, true, true, true, true, true, true, true, true, true, true, true, true, true, true, true, false, false] rfl rfl (by kernel_rfl) (fun _ _ _ h => h) (Or.inl ⟨by rfl, ?_⟩) ?_ ?_
        rotate_left
        · intro w'
          go_simp
          with_reducible rfl
        rotate_left
        · simp only [Act.put, List.setIfInBounds_toArray, List.set_cons_zero, List.set_cons_succ]
          rfl
        refine pure_ (i := 34) (N := some 54) (v := ?_) (a' := ?_) #[true, true, true, true, true, true, true, true, true, true, true, true, true, true, true, true, true, true, true, true, true, true, true, true, true, true, true, true, true, true, true, true, true, true, true, false] rfl rfl (by kernel_rfl) (fun _ _ _ h => h) (Or.inl ⟨by rfl, ?_⟩) ?_ ?_
        rotate_left
        · intro w'
          go_simp
          with_reducible rfl
        rotate_left
        · simp only [Act.put, List.setIfInBounds_toArray, List.set_cons_zero, List.set_cons_succ]
          rfl
        refine last_ (i := 35) (N := none) #[true, true, true, true, true, true, true, true, true, true, true, true, true, true, true, true, true, true, true, true, true, true, true, true, true, true, true, true, true, true, true, true, true, true, true, true] rfl rfl (by kernel_rfl) (by decide) (fun K hK => ?_)
        refine skip_ (w1 := ?_) (by rfl) rfl ?_ ?_
        rotate_left
        · go_simp
          rfl
        refine hK.out _ _ ?_
        clear hK K
        refine done_ (by kernel_rfl) ?_
        go_wp2
        go_roundg k1
        case measure => have := HN.out; omega
        case rel => exact ⟨n + 1, by first | rfl | simp, ⟨by have := HN.out; omega, by omega⟩, ⟨T2.out.far N25.out _⟩, ⟨T4.out.far N45.out _⟩, ⟨by
            rw [sched]
            rw [show wv b (sched b n) n = sch1 x0 x1 x2 x3 by
              rw [wv, if_pos hn, Y0.out, Y1.out, Y2.out, Y3.out]
              obtain ⟨q0, q1, q2, q3⟩ := J.out
              subst q0 q1 q2 q3
              rfl]
            exact T5.out.set n _⟩, ⟨below_drew1 (below_set B3.out G5.out)⟩⟩
      · have hlt : ((n : Int) < 16) = False := eq_false (by omega)
        obtain rfl : n = 16 := by have := HN.out; omega
        go_wp2_with (fail)
        go_loopg [7] 49 (fun kq v7 w' => ∃ m : Nat, v7 = .int .i64 (m : Int) ∧ Aside0 (m + kq = 65 ∧ 16 ≤ m ∧ m ≤ 64) ∧ Aside0 (IsArr w' g2 125 [s0, s1, s2, s3, s4, s5, s6, s7]) ∧ Aside0 (IsArr w' g4 125 z8) ∧ Aside0 (IsArr w' g5 143 (sched b m)) ∧ Aside0 (Below w.heap.size w w'))
        case atStart => exact ⟨16, rfl, ⟨by omega, by omega, by omega⟩, T2, T4, T5, B3⟩
        case round =>
          clear T2 T4 T5 B3
          obtain ⟨m, rfl, HM, T2, T4, T5, B3⟩ := hrel
          have hm16 := HM.out.2.1
          cases gk with
          | zero => have := HM.out; omega
          | succ k1 =>
            by_cases hm : m < 64
            · have hlt2 : ((m : Int) < 64) = True := eq_true (by omega)
              obtain ⟨j16, a16⟩ : ∃ j : Nat, j = m - 16 := ⟨_, rfl⟩
              obtain ⟨j15, a15⟩ : ∃ j : Nat, j = m - 15 := ⟨_, rfl⟩
              obtain ⟨j7, a7⟩ : ∃ j : Nat, j = m - 7 := ⟨_, rfl⟩
              obtain ⟨j2, a2⟩ : ∃ j : Nat, j = m - 2 := ⟨_, rfl⟩
              have e16 : IntKind.i64.wrap ((m : Int) - 16) = (j16 : Int) := (i64_w _).trans ((IntWalk.wrap64_in _ (by omega)).trans (by omega))
              have e15 : IntKind.i64.wrap ((m : Int) - 15) = (j15 : Int) := (i64_w _).trans ((IntWalk.wrap64_in _ (by omega)).trans (by omega))
              have e7 : IntKind.i64.wrap ((m : Int) - 7) = (j7 : Int) := (i64_w _).trans ((IntWalk.wrap64_in _ (by omega)).trans (by omega))
              have e2 : IntKind.i64.wrap ((m : Int) - 2) = (j2 : Int) := (i64_w _).trans ((IntWalk.wrap64_in _ (by omega)).trans (by omega))
              have c16 := T5.out.cell (n := j16) (by rw [sched_len]; omega)
              have c15 := T5.out.cell (n := j15) (by rw [sched_len]; omega)
              have c7 := T5.out.cell (n := j7) (by rw [sched_len]; omega)
              have c2 := T5.out.cell (n := j2) (by rw [sched_len]; omega)
              have p16 : ((j16 : Int) < 64) = True := eq_true (by omega)
              have p15 : ((j15 : Int) < 64) = True := eq_true (by omega)
              have p7 : ((j7 : Int) < 64) = True := eq_true (by omega)
              have p2 : ((j2 : Int) < 64) = True := eq_true (by omega)
              have cw := T5.out.cell (n := m) (by rw [sched_len]; omega)
              have fw := T5.out.frozen m
              have J : Aside0 (j16 = m - 16 ∧ j15 = m - 15 ∧ j7 = m - 7 ∧ j2 = m - 2) := ⟨a16, a15, a7, a2⟩
              clear a16 a15 a7 a2
              obtain ⟨x16, y16⟩ : ∃ x : Int, x = (sched b m).getD j16 0 := ⟨_, rfl⟩
              obtain ⟨x15, y15⟩ : ∃ x : Int, x = (sched b m).getD j15 0 := ⟨_, rfl⟩
              obtain ⟨x7, y7⟩ : ∃ x : Int, x = (sched b m).getD j7 0 := ⟨_, rfl⟩
              obtain ⟨x2, y2⟩ : ∃ x : Int, x = (sched b m).getD j2 0 := ⟨_, rfl⟩
              rw [← y16] at c16
              rw [← y15] at c15
              rw [← y7] at c7
              rw [← y2] at c2
              have Y16 := Aside0.mk y16
              have Y15 := Aside0.mk y15
              have Y7 := Aside0.mk y7
              have Y2 := Aside0.mk y2
              clear y16 y15 y7 y2
              go_wp2_with (fail)
              go_quiet (fail)
              go_wp2_with (fail)
              refine start_ (n := 30) (S := fun w' => w'.cell? ⟨g5, j16, none⟩ = some (.int .u32 x16) ∧ w'.cell? ⟨g5, j7, none⟩ = some (.int .u32 x7)) (ds := [29]) #[false, false, false, false, false, false, false, false, false, false, false, false, false, false, false, false, false, false, false, false, false, false, false, false, false, false, false, false, false, false] (by kernel_rfl) rfl rfl ⟨c16, c7⟩ (fun hHeld => ?_)
              refine pure_ (i := 0) (N := some 68) (v := ?_) (a' := ?_) #[true, false, false, false, false, false, false, false, false, false, false, false, false, false, false, false, false, false, false, false, false, false, false, false, false, false, false, false, false, false] rfl rfl (by kernel_rfl) (fun _ _ _ h => h) (Or.inl ⟨by rfl, ?_⟩) ?_ ?_
              rotate_left
              · intro w'
                go_simp
                with_reducible rfl
              rotate_left
              · simp only [Act.put, List.setIfInBounds_toArray, List.set_cons_zero, List.set_cons_succ]
                rfl
              refine pure_ (i := 1) (N := some 69) (v := ?_) (a' := ?_) #[true, true, false, false, false, false, false, false, false, false, false, false, false, false, false, false, false, false, false, false, false, false, false, false, false, false, false, false, false, false] rfl rfl (by kernel_rfl) (fun _ _ _ h => h) (Or.inl ⟨by rfl, ?_⟩) ?_ ?_
              rotate_left
              · intro w'
                go_simp
                with_reducible rfl
              rotate_left
              · simp only [Act.put, List.setIfInBounds_toArray, List.set_cons_zero, List.set_cons_succ]
                rfl
              refine pure_ (i := 2) (N := some 70) (v := ?_) (a' := ?_) #[true, true, true, false, false, false, false, false, false, false, false, false, false, false, false, false, false, false, false, false, false, false, false, false, false, false, false, false, false, false] rfl rfl (by kernel_rfl) (fun _ _ _ h => h) (Or.inl ⟨by rfl, ?_⟩) ?_ ?_
              rotate_left
              · intro w'
                go_simp
                with_reducible rfl
              rotate_left
              · simp only [Act.put, List.setIfInBounds_toArray, List.set_cons_zero, List.set_cons_succ]
                rfl
              refine pure_ (i := 3) (N := some 71) (v := ?_) (a' := ?_) #[true, true, true, true, false, false, false, false, false, false, false, false, false, false, false, false, false, false, false, false, false, false, false, false, false, false, false, false, false, false] rfl rfl (by kernel_rfl) (fun _ _ _ h => h) (Or.inl ⟨by rfl, ?_⟩) ?_ ?_
              rotate_left
              · intro w'
                go_simp
                with_reducible rfl
              rotate_left
              · simp only [Act.put, List.setIfInBounds_toArray, List.set_cons_zero, List.set_cons_succ]
                rfl
              refine take_ (i := 4) (N := some 72) (v := ?_) (a' := ?_) #[true, true, true, true, true, false, false, false, false, false, false, false, false, false, false, false, false, false, false, false, false, false, false, false, false, false, false, false, false, false] rfl rfl (by kernel_rfl) (fun _ _ _ h => h) (Or.inl ⟨by rfl, ?_⟩) (by first | exact hHeld | assumption) ?_ ?_
              rotate_left
              · rintro w' ⟨s0, s1⟩
                go_simp
                with_reducible rfl
              rotate_left
              · simp only [Act.put, List.setIfInBounds_toArray, List.set_cons_zero, List.set_cons_succ]
                rfl
              refine pure_ (i := 5) (N := some 73) (v := ?_) (a' := ?_) #[true, true, true, true, true, true, false, false, false, false, false, false, false, false, false, false, false, false, false, false, false, false, false, false, false, false, false, false, false, false] rfl rfl (by kernel_rfl) (fun _ _ _ h => h) (Or.inl ⟨by rfl, ?_⟩) ?_ ?_
              rotate_left
              · intro w'
                go_simp
                with_reducible rfl
              rotate_left
              · simp only [Act.put, List.setIfInBounds_toArray, List.set_cons_zero, List.set_cons_succ]
                rfl
              refine pure_ (i := 6) (N := some 74) (v := ?_) (a' := ?_) #[true, true, true, true, true, true, true, false, false, false, false, false, false, false, false, false, false, false, false, false, false, false, false, false, false, false, false, false, false, false] rfl rfl (by kernel_rfl) (fun _ _ _ h => h) (Or.inl ⟨by rfl, ?_⟩) ?_ ?_
              rotate_left
              · intro w'
                go_simp
                with_reducible rfl
              rotate_left
              · simp only [Act.put, List.setIfInBounds_toArray, List.set_cons_zero, List.set_cons_succ]
                rfl
              refine pure_ (i := 7) (N := some 75) (v := ?_) (a' := ?_) #[true, true, true, true, true, true, true, true, false, false, false, false, false, false, false, false, false, false, false, false, false, false, false, false, false, false, false, false, false, false] rfl rfl (by kernel_rfl) (fun _ _ _ h => h) (Or.inl ⟨by rfl, ?_⟩) ?_ ?_
              rotate_left
              · intro w'
                go_simp
                with_reducible rfl
              rotate_left
              · simp only [Act.put, List.setIfInBounds_toArray, List.set_cons_zero, List.set_cons_succ]
                rfl
              refine take_ (i := 8) (N := some 76) (v := ?_) (a' := ?_) #[true, true, true, true, true, true, true, true, true, false, false, false, false, false, false, false, false, false, false, false, false, false, false, false, false, false, false, false, false, false] rfl rfl (by kernel_rfl) (fun _ _ _ h => h) (Or.inl ⟨by rfl, ?_⟩) (by first | exact hHeld | assumption) ?_ ?_
              rotate_left
              · rintro w' ⟨s0, s1⟩
                go_simp
                with_reducible rfl
              rotate_left
              · simp only [Act.put, List.setIfInBounds_toArray, List.set_cons_zero, List.set_cons_succ]
                rfl
              refine pure_ (i := 9) (N := some 77) (v := ?_) (a' := ?_) #[true, true, true, true, true, true, true, true, true, true, false, false, false, false, false, false, false, false, false, false, false, false, false, false, false, false, false, false, false, false] rfl rfl (by kernel_rfl) (fun _ _ _ h => h) (Or.inl ⟨by rfl, ?_⟩) ?_ ?_
              rotate_left
              · intro w'
                go_simp
                with_reducible rfl
              rotate_left
              · simp only [Act.put, List.setIfInBounds_toArray, List.set_cons_zero, List.set_cons_succ]
                rfl
              refine pure_ (i := 10) (N := some 78) (v := ?_) (a' := ?_) #[true, true, true, true, true, true, true, true, true, true, true, false, false, false, false, false, false, false, false, false, false, false, false, false, false, false, false, false, false, false] rfl rfl (by kernel_rfl) (fun _ _ _ h => h) (Or.inl ⟨by rfl, ?_⟩) ?_ ?_
              rotate_left
              · intro w'
                go_simp
                with_reducible rfl
              rotate_left
              · simp only [Act.put, List.setIfInBounds_toArray, List.set_cons_zero, List.set_cons_succ]
                rfl
              refine pure_ (i := 12) (N := some 80) (v := ?_) (a' := ?_) #[true, true, true, true, true, true, true, true, true, true, true, false, true, false, false, false, false, false, false, false, false, false, false, false, false, false, false, false, false, false] rfl rfl (by kernel_rfl) (fun _ _ _ h => h) (Or.inl ⟨by rfl, ?_⟩) ?_ ?_
              rotate_left
              · intro w'
                go_simp
                with_reducible rfl
              rotate_left
              · simp only [Act.put, List.setIfInBounds_toArray, List.set_cons_zero, List.set_cons_succ]
                rfl
              refine pure_ (i := 15) (N := some 83) (v := ?_) (a' := ?_) #[true, true, true, true, true, true, true, true, true, true, true, false, true, false, false, true, false, false, false, false, false, false, false, false, false, false, false, false, false, false] rfl rfl (by kernel_rfl) (fun _ _ _ h => h) (Or.inl ⟨by rfl, ?_⟩) ?_ ?_
              rotate_left
              · intro w'
                go_simp
                with_reducible rfl
              rotate_left
              · simp only [Act.put, List.setIfInBounds_toArray, List.set_cons_zero, List.set_cons_succ]
                rfl
              refine pure_ (i := 16) (N := some 84) (v := ?_) (a' := ?_) #[true, true, true, true, true, true, true, true, true, true, true, false, true, false, false, true, true, false, false, false, false, false, false, false, false, false, false, false, false, false] rfl rfl (by kernel_rfl) (fun _ _ _ h => h) (Or.inl ⟨by rfl, ?_⟩) ?_ ?_
              rotate_left
              · intro w'
                go_simp
                with_reducible rfl
              rotate_left
              · simp only [Act.put, List.setIfInBounds_toArray, List.set_cons_zero, List.set_cons_succ]
                rfl
              refine pure_ (i := 19) (N := some 87) (v := ?_) (a' := ?_) #[true, true, true, true, true, true, true, true, true, true, true, false, true, false, false, true, true, false, false, true, false, false, false, false, false, false, false, false, false, false] rfl rfl (by kernel_rfl) (fun _ _ _ h => h) (Or.inl ⟨by rfl, ?_⟩) ?_ ?_
              rotate_left
              · intro w'
                go_simp
                with_reducible rfl
              rotate_left
              · simp only [Act.put, List.setIfInBounds_toArray, List.set_cons_zero, List.set_cons_succ]
                rfl
              refine pure_ (i := 21) (N := some 89) (v := ?_) (a' := ?_) #[true, true, true, true, true, true, true, true, true, true, true, false, true, false, false, true, true, false, false, true, false, true, false, false, false, false, false, false, false, false] rfl rfl (by kernel_rfl) (fun _ _ _ h => h) (Or.inl ⟨by rfl, ?_⟩) ?_ ?_
              rotate_left
              · intro w'
                go_simp
                with_reducible rfl
              rotate_left
              · simp only [Act.put, List.setIfInBounds_toArray, List.set_cons_zero, List.set_cons_succ]
                rfl
              refine pure_ (i := 24) (N := some 92) (v := ?_) (a' := ?_) #[true, true, true, true, true, true, true, true, true, true, true, false, true, false, false, true, true, false, false, true, false, true, false, false, true, false, false, false, false, false] rfl rfl (by kernel_rfl) (fun _ _ _ h => h) (Or.inl ⟨by rfl, ?_⟩) ?_ ?_
              rotate_left
              · intro w'
                go_simp
                with_reducible rfl
              rotate_left
              · simp only [Act.put, List.setIfInBounds_toArray, List.set_cons_zero, List.set_cons_succ]
                rfl
              refine pure_ (i := 25) (N := some 93) (v := ?_) (a' := ?_) #[true, true, true, true, true, true, true, true, true, true, true, false, true, false, false, true, true, false, false, true, false, true, false, false, true, true, false, false, false, false] rfl rfl (by kernel_rfl) (fun _ _ _ h => h) (Or.inl ⟨by rfl, ?_⟩) ?_ ?_
              rotate_left
              · intro w'
                go_simp
                with_reducible rfl
              rotate_left
              · simp only [Act.put, List.setIfInBounds_toArray, List.set_cons_zero, List.set_cons_succ]
                rfl
              refine one_ (i := 11) (N := some 79) #[true, true, true, true, true, true, true, true, true, true, true, true, true, false, false, true, true, false, false, true, false, true, false, false, true, true, false, false, false, false] rfl rfl (by kernel_rfl) (by decide) (fun K hK => ?_)
              refine call_ 109 #[.int .u32 x15, .int .i64 (-7)] (by rfl) rfl (by first | (go_simp; done) | (go_simp; rfl)) ?_
              refine (bits_RotateLeft32.calls x15 (-7) _ _ (rot7 x15)).mono ?_
              rintro e w6 ⟨rfl, ⟨nd, rfl⟩⟩
              refine ⟨_, rfl, hK.out _ _ hHeld (fun hHeld => ?_)⟩
              clear hK K
              refine norm_ (a' := ?_) ?_ ?_
              rotate_left
              · show Act.put _ (some 79) _ = _
                simp only [Act.put, List.setIfInBounds_toArray, List.set_cons_zero, List.set_cons_succ]
                rfl
              refine one_ (i := 13) (N := some 81) #[true, true, true, true, true, true, true, true, true, true, true, true, true, true, false, true, true, false, false, true, false, true, false, false, true, true, false, false, false, false] rfl rfl (by kernel_rfl) (by decide) (fun K hK => ?_)
              refine call_ 109 #[.int .u32 x15, .int .i64 (-18)] (by rfl) rfl (by first | (go_simp; done) | (go_simp; rfl)) ?_
              refine (bits_RotateLeft32.calls x15 (-18) _ _ (rot18 x15)).mono ?_
              rintro e w6 ⟨rfl, ⟨nd, rfl⟩⟩
              refine ⟨_, rfl, hK.out _ _ hHeld (fun hHeld => ?_)⟩
              clear hK K
              refine norm_ (a' := ?_) ?_ ?_
              rotate_left
              · show Act.put _ (some 81) _ = _
                simp only [Act.put, List.setIfInBounds_toArray, List.set_cons_zero, List.set_cons_succ]
                rfl
              refine pure_ (i := 14) (N := some 82) (v := ?_) (a' := ?_) #[true, true, true, true, true, true, true, true, true, true, true, true, true, true, true, true, true, false, false, true, false, true, false, false, true, true, false, false, false, false] rfl rfl (by kernel_rfl) (fun _ _ _ h => h) (Or.inl ⟨by rfl, ?_⟩) ?_ ?_
              rotate_left
              · intro w'
                go_simp
                with_reducible rfl
              rotate_left
              · simp only [Act.put, List.setIfInBounds_toArray, List.set_cons_zero, List.set_cons_succ]
                rfl
              refine pure_ (i := 17) (N := some 85) (v := ?_) (a' := ?_) #[true, true, true, true, true, true, true, true, true, true, true, true, true, true, true, true, true, true, false, true, false, true, false, false, true, true, false, false, false, false] rfl rfl (by kernel_rfl) (fun _ _ _ h => h) (Or.inl ⟨by rfl, ?_⟩) ?_ ?_
              rotate_left
              · intro w'
                go_simp
                with_reducible rfl
              rotate_left
              · simp only [Act.put, List.setIfInBounds_toArray, List.set_cons_zero, List.set_cons_succ]
                rfl
              refine pure_ (i := 18) (N := some 86) (v := ?_) (a' := ?_) #[true, true, true, true, true, true, true, true, true, true, true, true, true, true, true, true, true, true, true, true, false, true, false, false, true, true, false, false, false, false] rfl rfl (by kernel_rfl) (fun _ _ _ h => h) (Or.inl ⟨by rfl, ?_⟩) ?_ ?_
              rotate_left
              · intro w'
                go_simp
                with_reducible rfl
              rotate_left
              · simp only [Act.put, List.setIfInBounds_toArray, List.set_cons_zero, List.set_cons_succ]
                rfl
              refine one_ (i := 20) (N := some 88) #[true, true, true, true, true, true, true, true, true, true, true, true, true, true, true, true, true, true, true, true, true, true, false, false, true, true, false, false, false, false] rfl rfl (by kernel_rfl) (by decide) (fun K hK => ?_)
              refine call_ 109 #[.int .u32 x2, .int .i64 (-17)] (by rfl) rfl (by first | (go_simp; done) | (go_simp; rfl)) ?_
              refine (bits_RotateLeft32.calls x2 (-17) _ _ (rot17 x2)).mono ?_
              rintro e w6 ⟨rfl, ⟨nd, rfl⟩⟩
              refine ⟨_, rfl, hK.out _ _ hHeld (fun hHeld => ?_)⟩
              clear hK K
              refine norm_ (a' := ?_) ?_ ?_
              rotate_left
              · show Act.put _ (some 88) _ = _
                simp only [Act.put, List.setIfInBounds_toArray, List.set_cons_zero, List.set_cons_succ]
                rfl
              refine one_ (i := 22) (N := some 90) #[true, true, true, true, true, true, true, true, true, true, true, true, true, true, true, true, true, true, true, true, true, true, true, false, true, true, false, false, false, false] rfl rfl (by kernel_rfl) (by decide) (fun K hK => ?_)
              refine call_ 109 #[.int .u32 x2, .int .i64 (-19)] (by rfl) rfl (by first | (go_simp; done) | (go_simp; rfl)) ?_
              refine (bits_RotateLeft32.calls x2 (-19) _ _ (rot19 x2)).mono ?_
              rintro e w6 ⟨rfl, ⟨nd, rfl⟩⟩
              refine ⟨_, rfl, hK.out _ _ hHeld (fun hHeld => ?_)⟩
              clear hK K
              refine norm_ (a' := ?_) ?_ ?_
              rotate_left
              · show Act.put _ (some 90) _ = _
                simp only [Act.put, List.setIfInBounds_toArray, List.set_cons_zero, List.set_cons_succ]
                rfl
              refine pure_ (i := 23) (N := some 91) (v := ?_) (a' := ?_) #[true, true, true, true, true, true, true, true, true, true, true, true, true, true, true, true, true, true, true, true, true, true, true, true, true, true, false, false, false, false] rfl rfl (by kernel_rfl) (fun _ _ _ h => h) (Or.inl ⟨by rfl, ?_⟩) ?_ ?_
              rotate_left
              · intro w'
                go_simp
                with_reducible rfl
              rotate_left
              · simp only [Act.put, List.setIfInBounds_toArray, List.set_cons_zero, List.set_cons_succ]
                rfl
              refine pure_ (i := 26) (N := some 94) (v := ?_) (a' := ?_) #[true, true, true, true, true, true, true, true, true, true, true, true, true, true, true, true, true, true, true, true, true, true, true, true, true, true, true, false, false, false] rfl rfl (by kernel_rfl) (fun _ _ _ h => h) (Or.inl ⟨by rfl, ?_⟩) ?_ ?_
              rotate_left
              · intro w'
                go_simp
                with_reducible rfl
              rotate_left
              · simp only [Act.put, List.setIfInBounds_toArray, List.set_cons_zero, List.set_cons_succ]
                rfl
              refine pure_ (i := 27) (N := some 95) (v := ?_) (a' := ?_) #[true, true, true, true, true, true, true, true, true, true, true, true, true, true, true, true, true, true, true, true, true, true, true, true, true, true, true, true, false, false] rfl rfl (by kernel_rfl) (fun _ _ _ h => h) (Or.inl ⟨by rfl, ?_⟩) ?_ ?_
              rotate_left
              · intro w'
                go_simp
                with_reducible rfl
              rotate_left
              · simp only [Act.put, List.setIfInBounds_toArray, List.set_cons_zero, List.set_cons_succ]
                rfl
              refine pure_ (i := 28) (N := some 96) (v := ?_) (a' := ?_) #[true, true, true, true, true, true, true, true, true, true, true, true, true, true, true, true, true, true, true, true, true, true, true, true, true, true, true, true, true, false] rfl rfl (by kernel_rfl) (fun _ _ _ h => h) (Or.inl ⟨by rfl, ?_⟩) ?_ ?_
              rotate_left
              · intro w'
                go_simp
                with_reducible rfl
              rotate_left
              · simp only [Act.put, List.setIfInBounds_toArray, List.set_cons_zero, List.set_cons_succ]
                rfl
              refine last_ (i := 29) (N := none) #[true, true, true, true, true, true, true, true, true, true, true, true, true, true, true, true, true, true, true, true, true, true, true, true, true, true, true, true, true, true] rfl rfl (by kernel_rfl) (by decide) (fun K hK => ?_)
              refine skip_ (w1 := ?_) (by rfl) rfl ?_ ?_
              rotate_left
              · go_simp
                rfl
              refine hK.out _ _ ?_
              clear hK K
              refine done_ (by kernel_rfl) ?_
              go_wp2
              go_roundg k1
              case measure => have := HM.out; omega
              case rel => exact ⟨m + 1, by first | rfl | simp, ⟨by have := HM.out; omega, by omega, by omega⟩, ⟨T2.out.far N25.out _⟩, ⟨T4.out.far N45.out _⟩, ⟨by
                  rw [sched]
                  rw [show wv b (sched b m) m = sch2 x16 x7 x15 x2 by
                    rw [wv, if_neg (by omega), Y16.out, Y15.out, Y7.out, Y2.out]
                    obtain ⟨q0, q1, q2, q3⟩ := J.out
                    subst q0 q1 q2 q3
                    rfl]
                  exact (T5.out.drewN _).set m _⟩, ⟨below_set (pw_below_drewN B3.out _) G5.out⟩⟩
            · have hlt2 : ((m : Int) < 64) = False := eq_false (by omega)
              obtain rfl : m = 64 := by have := HM.out; omega
              go_upto_region 12 with (fail)
              have szS := sizes125
              go_wp2_with (first
                | ((with_reducible refine gate_dst (N := 97) rfl ?_); refine wpList_load_row rfl 125 (.tmp 2) rfl g2 rfl 125 _ (0, 0) _ T2.out hu43 rfl sizes125 ?_)
                | ((with_reducible refine gate_dst (N := 10) rfl ?_); refine box_event rfl (N := 10) rfl (cs := arr z8) (t := 125) ?hr ?_; (case hr => first | (go_simp; done) | (go_simp; rfl)); intro g10 hg w4 hk10 hB4
                   have S10 : Aside0 (IsArr w4 g10 125 z8) := ⟨hk10⟩
                   have G10 : Aside0 (w.heap.size ≤ g10) := ⟨by have := B3.out.size; omega⟩
                   have B4 : Aside0 (Below w.heap.size w w4) := ⟨below_step B3.out hB4⟩
                   have U2 : Aside0 (IsArr w4 g2 125 [s0, s1, s2, s3, s4, s5, s6, s7]) := ⟨T2.out.below hB4⟩
                   have U4 : Aside0 (IsArr w4 g4 125 z8) := ⟨T4.out.below hB4⟩
                   have U5 : Aside0 (IsArr w4 g5 143 (sched b 64)) := ⟨T5.out.below hB4⟩
                   have N2 : Aside0 (g2 ≠ g10) := ⟨by have := T2.out.lt; omega⟩
                   have N4 : Aside0 (g4 ≠ g10) := ⟨by have := T4.out.lt; omega⟩
                   have N5 : Aside0 (g5 ≠ g10) := ⟨by have := T5.out.lt; omega⟩
                   clear T2 T4 T5 B3 hg hk10 hB4)
                | ((with_reducible refine gate_store (t := 125) (p := 10) (v := .tmp 97) rfl ?_); refine wpList_store_row (P := Tryz.prog) rfl 125 (.tmp 10) (.tmp 97) rfl g10 (arr [s0, s1, s2, s3, s4, s5, s6, s7]) ?h1 ?h2 125 _ S10.out ?h3 rfl (arr_one _) ?_; (case h1 => rfl); (case h2 => rfl); (case h3 => exact sizes125)
                   have X10 : Aside0 (IsArr (w4.setRow g10 (arr [s0, s1, s2, s3, s4, s5, s6, s7])) g10 125 [s0, s1, s2, s3, s4, s5, s6, s7]) := ⟨S10.out.row _⟩
                   have X2 : Aside0 (IsArr (w4.setRow g10 (arr [s0, s1, s2, s3, s4, s5, s6, s7])) g2 125 [s0, s1, s2, s3, s4, s5, s6, s7]) := ⟨U2.out.farRow N2.out _⟩
                   have X4 : Aside0 (IsArr (w4.setRow g10 (arr [s0, s1, s2, s3, s4, s5, s6, s7])) g4 125 z8) := ⟨U4.out.farRow N4.out _⟩
                   have X5 : Aside0 (IsArr (w4.setRow g10 (arr [s0, s1, s2, s3, s4, s5, s6, s7])) g5 143 (sched b 64)) := ⟨U5.out.farRow N5.out _⟩
                   have XB : Aside0 (Below w.heap.size w (w4.setRow g10 (arr [s0, s1, s2, s3, s4, s5, s6, s7]))) := ⟨below_row B4.out G10.out _⟩
                   clear S10 U2 U4 U5 B4
                   generalize w4.setRow g10 (arr [s0, s1, s2, s3, s4, s5, s6, s7]) = w5 at X10 X2 X4 X5 XB ⊢))
              go_loopg [98] 65 (fun kq v98 w' => ∃ r : Nat, v98 = .int .i64 (r : Int) ∧ Aside0 (r + kq = 65 ∧ r ≤ 64) ∧ Aside0 (IsArr w' g2 125 [s0, s1, s2, s3, s4, s5, s6, s7]) ∧ Aside0 (IsArr w' g4 125 z8) ∧ Aside0 (IsArr w' g5 143 (sched b 64)) ∧ Aside0 (∃ t0 t1 t2 t3 t4 t5 t6 t7, IsArr w' g10 125 [t0, t1, t2, t3, t4, t5, t6, t7] ∧ roundsOf [s0, s1, s2, s3, s4, s5, s6, s7] (sched b 64) r = [t0, t1, t2, t3, t4, t5, t6, t7]) ∧ Aside0 (Below w.heap.size w w'))
              case atStart => exact ⟨0, rfl, ⟨by omega, by omega⟩, X2, X4, X5, ⟨s0, s1, s2, s3, s4, s5, s6, s7, X10.out, rfl⟩, XB⟩
              case round =>
                clear X2 X4 X5 X10 XB
                obtain ⟨r, rfl, HR, X2, X4, X5, X10, XB⟩ := hrel
                cases gk with
                | zero => have := HR.out; omega
                | succ k1 =>
                  obtain ⟨t0, t1, t2, t3, t4, t5, t6, t7, hT, hR⟩ := X10.out
                  have T10 := Aside0.mk hT
                  have R10 := Aside0.mk hR
                  clear X10 hT hR
                  by_cases hr : r < 64
                  · have hlt3 : ((r : Int) < 64) = True := eq_true (by omega)
                    have ct0 : wr.cell? ⟨g10, 0, none⟩ = some (.int .u32 t0) := T10.out.cell (n := 0) (by simp)
                    have ct1 : wr.cell? ⟨g10, 1, none⟩ = some (.int .u32 t1) := T10.out.cell (n := 1) (by simp)
                    have ct2 : wr.cell? ⟨g10, 2, none⟩ = some (.int .u32 t2) := T10.out.cell (n := 2) (by simp)
                    have ct3 : wr.cell? ⟨g10, 3, none⟩ = some (.int .u32 t3) := T10.out.cell (n := 3) (by simp)
                    have ct4 : wr.cell? ⟨g10, 4, none⟩ = some (.int .u32 t4) := T10.out.cell (n := 4) (by simp)
                    have ct5 : wr.cell? ⟨g10, 5, none⟩ = some (.int .u32 t5) := T10.out.cell (n := 5) (by simp)
                    have ct6 : wr.cell? ⟨g10, 6, none⟩ = some (.int .u32 t6) := T10.out.cell (n := 6) (by simp)
                    have ct7 : wr.cell? ⟨g10, 7, none⟩ = some (.int .u32 t7) := T10.out.cell (n := 7) (by simp)
                    have cg : wr.cell? ⟨0, r, none⟩ = some (.int .u32 (roundsL.getD r 0)) := below_cell (HG.out r hr) XB.out
                    have cx : wr.cell? ⟨g5, r, none⟩ = some (.int .u32 ((sched b 64).getD r 0)) := X5.out.cell (by rw [sched_len]; exact hr)
                    obtain ⟨kc, ykc⟩ : ∃ x : Int, x = roundsL.getD r 0 := ⟨_, rfl⟩
                    obtain ⟨xc, yxc⟩ : ∃ x : Int, x = (sched b 64).getD r 0 := ⟨_, rfl⟩
                    rw [← ykc] at cg
                    rw [← yxc] at cx
                    have YK := Aside0.mk ykc
                    have YX := Aside0.mk yxc
                    clear ykc yxc
                    go_wp2_with (fail)
                    go_quiet (fail)
                    go_wp2_with (fail)
                    go_quiet (exact rotq _ _)
                    go_wp2_with (fail)
                    go_quiet (exact rotq _ _)
                    obtain ⟨uv, huv⟩ : ∃ u : Int, u = upOf t4 t5 t6 t7 kc xc := ⟨_, rfl⟩
                    obtain ⟨dv, hdv⟩ : ∃ u : Int, u = downOf t0 t1 t2 := ⟨_, rfl⟩
                    rw [← upOf, ← downOf, ← huv, ← hdv]
                    have HU := Aside0.mk huv
                    have HD := Aside0.mk hdv
                    clear huv hdv
                    go_wp2_with (first
                      | ((with_reducible refine gate_store (t := 125) (p := 10) (v := .tmp 178) rfl ?_); refine wpList_store_row (P := Tryz.prog) rfl 125 (.tmp 10) (.tmp 178) rfl g10 (arr [(uv + dv) % 4294967296, t0, t1, t2, (t3 + uv) % 4294967296, t4, t5, t6]) ?h1 ?h2 125 _ T10.out ?h3 rfl (arr_one _) ?_; (case h1 => rfl); (case h2 => rfl); (case h3 => exact sizes125)))
                    go_roundg k1
                    case measure => have := HR.out; omega
                    case rel => exact ⟨r + 1, by first | rfl | simp, ⟨by have := HR.out; omega, by omega⟩, ⟨X2.out.farRow N2.out _⟩, ⟨X4.out.farRow N4.out _⟩, ⟨X5.out.farRow N5.out _⟩, ⟨_, _, _, _, _, _, _, _, T10.out.row _, by
                        rw [roundsOf, R10.out, ← YK.out, ← YX.out, HU.out, HD.out]
                        rfl⟩, ⟨below_row (pw_below_drewN XB.out _) G10.out _⟩⟩
                  · have hlt3 : ((r : Int) < 64) = False := eq_false (by omega)
                    obtain rfl : r = 64 := by have := HR.out; omega
                    go_wp2_with (fail)
                    go_loopg [180] 9 (fun kq v180 w' => ∃ q : Nat, v180 = .int .i64 (q : Int) ∧ Aside0 (q + kq = 9 ∧ q ≤ 8) ∧ Aside0 (IsArr w' g2 125 (addTo [s0, s1, s2, s3, s4, s5, s6, s7] [t0, t1, t2, t3, t4, t5, t6, t7] q)) ∧ Aside0 (IsArr w' g4 125 z8) ∧ Aside0 (IsArr w' g10 125 [t0, t1, t2, t3, t4, t5, t6, t7]) ∧ Aside0 (Below w.heap.size w w'))
                    case atStart => exact ⟨0, rfl, ⟨by omega, by omega⟩, X2, X4, T10, XB⟩
                    case round =>
                      clear X2 X4 X5 T10 XB
                      obtain ⟨q, rfl, HQ, X2, X4, T10, XB⟩ := hrel
                      cases gk with
                      | zero => have := HQ.out; omega
                      | succ k1 =>
                        by_cases hq : q < 8
                        · have hlt4 : ((q : Int) < 8) = True := eq_true (by omega)
                          have cs := X2.out.cell (n := q) (by rw [addTo_len]; exact hq)
                          have fs := X2.out.frozen q
                          have ct := T10.out.cell (n := q) (by exact hq)
                          obtain ⟨xs, yxs⟩ : ∃ x : Int, x = (addTo [s0, s1, s2, s3, s4, s5, s6, s7] [t0, t1, t2, t3, t4, t5, t6, t7] q).getD q 0 := ⟨_, rfl⟩
                          obtain ⟨xt, yxt⟩ : ∃ x : Int, x = [t0, t1, t2, t3, t4, t5, t6, t7].getD q 0 := ⟨_, rfl⟩
                          rw [← yxs] at cs
                          rw [← yxt] at ct
                          have YS := Aside0.mk yxs
                          have YT := Aside0.mk yxt
                          clear yxs yxt
                          go_wp2_with (fail)
                          refine start_ (n := 9) (S := fun w' => w'.cell? ⟨g2, q, none⟩ = some (.int .u32 xs) ∧ w'.cell? ⟨g10, q, none⟩ = some (.int .u32 xt)) (ds := [8]) #[false, false, false, false, false, false, false, false, false] (by kernel_rfl) rfl rfl ⟨cs, ct⟩ (fun hHeld => ?_)
                          refine pure_ (i := 0) (N := some 183) (v := ?_) (a' := ?_) #[true, false, false, false, false, false, false, false, false] rfl rfl (by kernel_rfl) (fun _ _ _ h => h) (Or.inl ⟨by rfl, ?_⟩) ?_ ?_
                          rotate_left
                          · intro w'
                            go_simp
                            with_reducible rfl
                          rotate_left
                          · simp only [Act.put, List.setIfInBounds_toArray, List.set_cons_zero, List.set_cons_succ]
                            rfl
                          refine pure_ (i := 1) (N := some 184) (v := ?_) (a' := ?_) #[true, true, false, false, false, false, false, false, false] rfl rfl (by kernel_rfl) (fun _ _ _ h => h) (Or.inl ⟨by rfl, ?_⟩) ?_ ?_
                          rotate_left
                          · intro w'
                            go_simp
                            with_reducible rfl
                          rotate_left
                          · simp only [Act.put, List.setIfInBounds_toArray, List.set_cons_zero, List.set_cons_succ]
                            rfl
                          refine take_ (i := 2) (N := some 185) (v := ?_) (a' := ?_) #[true, true, true, false, false, false, false, false, false] rfl rfl (by kernel_rfl) (fun _ _ _ h => h) (Or.inl ⟨by rfl, ?_⟩) (by first | exact hHeld | assumption) ?_ ?_
                          rotate_left
                          · rintro w' ⟨s0, s1⟩
                            go_simp
                            with_reducible rfl
                          rotate_left
                          · simp only [Act.put, List.setIfInBounds_toArray, List.set_cons_zero, List.set_cons_succ]
                            rfl
                          refine pure_ (i := 3) (N := some 186) (v := ?_) (a' := ?_) #[true, true, true, true, false, false, false, false, false] rfl rfl (by kernel_rfl) (fun _ _ _ h => h) (Or.inl ⟨by rfl, ?_⟩) ?_ ?_
                          rotate_left
                          · intro w'
                            go_simp
                            with_reducible rfl
                          rotate_left
                          · simp only [Act.put, List.setIfInBounds_toArray, List.set_cons_zero, List.set_cons_succ]
                            rfl
                          refine pure_ (i := 4) (N := some 187) (v := ?_) (a' := ?_) #[true, true, true, true, true, false, false, false, false] rfl rfl (by kernel_rfl) (fun _ _ _ h => h) (Or.inl ⟨by rfl, ?_⟩) ?_ ?_
                          rotate_left
                          · intro w'
                            go_simp
                            with_reducible rfl
                          rotate_left
                          · simp only [Act.put, List.setIfInBounds_toArray, List.set_cons_zero, List.set_cons_succ]
                            rfl
                          refine take_ (i := 5) (N := some 188) (v := ?_) (a' := ?_) #[true, true, true, true, true, true, false, false, false] rfl rfl (by kernel_rfl) (fun _ _ _ h => h) (Or.inl ⟨by rfl, ?_⟩) (by first | exact hHeld | assumption) ?_ ?_
                          rotate_left
                          · rintro w' ⟨s0, s1⟩
                            go_simp
                            with_reducible rfl
                          rotate_left
                          · simp only [Act.put, List.setIfInBounds_toArray, List.set_cons_zero, List.set_cons_succ]
                            rfl
                          refine pure_ (i := 6) (N := some 189) (v := ?_) (a' := ?_) #[true, true, true, true, true, true, true, false, false] rfl rfl (by kernel_rfl) (fun _ _ _ h => h) (Or.inl ⟨by rfl, ?_⟩) ?_ ?_
                          rotate_left
                          · intro w'
                            go_simp
                            with_reducible rfl
                          rotate_left
                          · simp only [Act.put, List.setIfInBounds_toArray, List.set_cons_zero, List.set_cons_succ]
                            rfl
                          refine pure_ (i := 7) (N := some 190) (v := ?_) (a' := ?_) #[true, true, true, true, true, true, true, true, false] rfl rfl (by kernel_rfl) (fun _ _ _ h => h) (Or.inl ⟨by rfl, ?_⟩) ?_ ?_
                          rotate_left
                          · intro w'
                            go_simp
                            with_reducible rfl
                          rotate_left
                          · simp only [Act.put, List.setIfInBounds_toArray, List.set_cons_zero, List.set_cons_succ]
                            rfl
                          refine last_ (i := 8) (N := none) #[true, true, true, true, true, true, true, true, true] rfl rfl (by kernel_rfl) (by decide) (fun K hK => ?_)
                          refine skip_ (w1 := ?_) (by rfl) rfl ?_ ?_
                          rotate_left
                          · go_simp
                            rfl
                          refine hK.out _ _ ?_
                          clear hK K
                          refine done_ (by kernel_rfl) ?_
                          go_wp2
                          go_roundg k1
                          case measure => have := HQ.out; omega
                          case rel => exact ⟨q + 1, by first | rfl | simp, ⟨by have := HQ.out; omega, by omega⟩, ⟨by
                              rw [addTo, ← YS.out, ← YT.out]
                              exact X2.out.set q _⟩, ⟨X4.out.far (Ne.symm N24.out) _⟩, ⟨T10.out.far (Ne.symm N2.out) _⟩, ⟨below_drew1 (below_set XB.out G2.out)⟩⟩
                        · have hlt4 : ((q : Int) < 8) = False := eq_false (by omega)
                          obtain rfl : q = 8 := by have := HQ.out; omega
                          go_upto_region 26 with (fail)
                          go_wp2_with (first
                            | ((with_reducible refine gate_dst (N := 192) rfl ?_); refine wpList_load_row rfl 125 (.tmp 2) rfl g2 rfl 125 _ (0, 0) _ X2.out hu43 rfl (by rw [arr_size, addTo_len]; exact sizes125) ?_)
                            | ((with_reducible refine gate_store (t := 125) (p := 4) (v := .tmp 192) rfl ?_); refine wpList_store_row (P := Tryz.prog) rfl 125 (.tmp 4) (.tmp 192) rfl g4 (arr (addTo [s0, s1, s2, s3, s4, s5, s6, s7] [t0, t1, t2, t3, t4, t5, t6, t7] 8)) ?h1 ?h2 125 _ X4.out ?h3 ?h4 (arr_one _) ?_; (case h1 => rfl); (case h2 => rfl); (case h3 => rw [arr_size, addTo_len]; exact sizes125); (case h4 => rw [arr_size, arr_size, addTo_len]; rfl)))
                          refine bodyPost_ret (results_cell_row rfl _ _ g4 125 (arr (addTo [s0, s1, s2, s3, s4, s5, s6, s7] [t0, t1, t2, t3, t4, t5, t6, t7] 8)) (0, 0) _ rfl (X4.out.row _) hu43 rfl (by rw [arr_size, addTo_len]; exact sizes125)) rfl ?_
                          exact ⟨by rw [blockF, R10.out], below_row XB.out G4.out _⟩
end Go.Proofs.YtdeakccaecphlaaGreatDoor.Q
