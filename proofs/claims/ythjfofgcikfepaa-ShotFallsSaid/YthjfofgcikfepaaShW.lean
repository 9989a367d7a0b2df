/- Words of ShotFalls. -/
import Derived.Outline
import Derived.StillTailTactics
import Derived.Deep.AppendLies
import Derived.Test.YthjfofgcikfepaaShQ
import Derived.Test.YthjfofgcikfepaaShC
namespace Go.Proofs.Ythjfofgcikfepaa.Q
open Go.Maps Go.WideShapes Go.WideMaps Go.RowKit Go.Proofs.YthjfofgcikfepaaW.PrintWords Go.Proofs.YthjfofgcikfepaaW.PrintLast Go.Proofs.YthjfofgcikfepaaW.PrintMore
set_option linter.unusedVariables false
set_option linter.unusedSimpArgs false
set_option maxHeartbeats 10000000
set_option maxRecDepth 100000
theorem load_nofall (x y : Option ByteArray) (n r : Int) : ∃ n', loadK (idle x y n [] r false) = (idle x none n' [] r false, 0) := by
  rcases load_cases x y n [] r with ⟨_, _, h⟩ | ⟨_, _, _, h⟩ | ⟨_, _, i, y', hi, _⟩
  · exact ⟨_, h⟩
  · exact ⟨_, h⟩
  · exact absurd hi (Nat.not_lt_zero _)
/-! ShotFalls: words -/
theorem cell_lt {w : World} {a : Addr} {v : Value} (h : w.cell? a = some v) : a.block < w.heap.size := by
  rcases Nat.lt_or_ge a.block w.heap.size with h1 | h1
  · exact h1
  · simp [World.cell?, Array.getElem?_eq_none h1] at h
structure S51 where
  f0 : Int
  f1 : Int
  f2 : Int
def k51 : Kd S51 := Kd.iso (Kd.pair (Kd.int .i64) (Kd.pair (Kd.int .i64) (Kd.int .i64))) (fun x : S51 => (x.f0, x.f1, x.f2))
theorem k51_open {w : World} {x : S51} {cs : List Value} (h : k51.K w x cs) : cs = [.int .i64 x.f0, .int .i64 x.f1, .int .i64 x.f2] := by
  obtain ⟨_, _, rfl, rfl, ⟨_, _, rfl, rfl, rfl⟩⟩ := h
  exact rfl
theorem two_falls {w : World} {x : S51 × S51} {cs : Array Value} (h : (Kd.pair k51 k51).K w x cs.toList) : cs = #[.int .i64 x.1.f0, .int .i64 x.1.f1, .int .i64 x.1.f2, .int .i64 x.2.f0, .int .i64 x.2.f1, .int .i64 x.2.f2] := by
  obtain ⟨c1, c2, e, h1, h2⟩ := h
  rw [k51_open h1, k51_open h2] at e
  cases cs; simp at e; rw [e]
theorem fall_one (w : World) (x : Fal) : Kd.C kF (w.alloc (.cells #[.int .i64 x.at_, .int .i64 x.keep, .int .i64 x.torn] 51 (0, 0))) (some ⟨w.heap.size, 0, none⟩) 1 [x] := by
  refine ⟨rfl, by decide, fun _ => ⟨_, rfl, fun j p hp => ?_⟩⟩
  cases j with
  | zero =>
    simp only [List.getElem?_cons_zero, Option.some.injEq] at hp
    subst hp
    refine ⟨[.int .i64 x.at_, .int .i64 x.keep, .int .i64 x.torn], rfl, ⟨_, _, rfl, rfl, ⟨_, _, rfl, rfl, rfl⟩⟩, fun i u hu => ?_⟩
    have hX := heap_alloc_new w (.cells #[.int .i64 x.at_, .int .i64 x.keep, .int .i64 x.torn] 51 (0, 0))
    match i, hu with
    | 0, hu => exact ((blk_cell hX 0).trans rfl).trans hu
    | 1, hu => exact ((blk_cell hX 1).trans rfl).trans hu
    | 2, hu => exact ((blk_cell hX 2).trans rfl).trans hu
    | i + 3, hu => simp at hu
  | succ j => simp at hp
def z24 : S24 := ⟨0, 0, [], ⟨#[]⟩⟩
theorem at_S {w : World} {A : Option Addr} {n : Nat} {xs : List S24} (h : Kd.C k24 w A n xs) (i : Nat) (h1 : i < n) : ∃ ad B c, A = some ad ∧ w.cell? (ad.add (i * 4)) = some (.int .i64 (xs.getD i z24).f0) ∧ w.cell? ⟨(ad.add (i * 4)).block, (ad.add (i * 4)).off + 1, none⟩ = some (.int .i64 (xs.getD i z24).f1) ∧ w.cell? ⟨(ad.add (i * 4)).block, (ad.add (i * 4)).off + 2, none⟩ = some (.slice B (xs.getD i z24).f2.length c) ∧ w.cell? ⟨(ad.add (i * 4)).block, (ad.add (i * 4)).off + 3, none⟩ = some (.string (xs.getD i z24).f3) ∧ (xs.getD i z24).f2.length ≤ c ∧ Kd.C (Kd.int .i64) w B (xs.getD i z24).f2.length (xs.getD i z24).f2 := by
  obtain ⟨ad, cs, e, _, hK, hc0⟩ := Kd.C_get h z24 (i : Int) (by omega) (by omega)
  rw [Int.toNat_natCast] at hK hc0
  have hc : ∀ j u, cs[j]? = some u → w.cell? (ad.add (i * 4 + j)) = some u := hc0
  obtain ⟨B, c, rfl, hl, hC⟩ := k24_open hK
  exact ⟨ad, B, c, e, hc 0 _ rfl, by rw [← add_field _ _ 1 (by omega)]; exact hc 1 _ rfl, by rw [← add_field _ _ 2 (by omega)]; exact hc 2 _ rfl, by rw [← add_field _ _ 3 (by omega)]; exact hc 3 _ rfl, hl, hC⟩
/-- what the file says is that snapshot, or there is none -/
def IV (x : Option ByteArray) (s : S24) : Prop := (x = none ∧ s = z24) ∨ (chkS s.f0 s.f1 s.f2 s.f3 = 0 ∧ x = some (frameS (shotT s.f0 s.f1 s.f2 s.f3)))
theorem IV.load {x : Option ByteArray} {s : S24} (h : IV x s) : loadR x = ((s.f0, s.f1, s.f2, s.f3), !(s.f2.length == 0), 0) := by
  rcases h with ⟨rfl, rfl⟩ | ⟨h, rfl⟩
  · rfl
  · have hl := (fineS h).l0
    have e : (s.f2.length == 0) = false := by rw [beq_eq_false_iff_ne]; omega
    rw [e]
    exact fileR_frame h
theorem IV.sz {x : Option ByteArray} {s : S24} (h : IV x s) : osz x ≤ 131190 := by
  rcases h with ⟨rfl, rfl⟩ | ⟨h, rfl⟩
  · exact Nat.zero_le _
  · show (frameS _).size ≤ _
    rw [frameS_size]; have := shotT_size (fineS h); omega
/-- a variable that holds a snapshot whose list lay in memory at W -/
def Bx (W : World) (g : Nat) (w : World) (s : S24) : Prop := ∃ A c, w.heap[g]? = some (.cells #[.int .i64 s.f0, .int .i64 s.f1, .slice A s.f2.length c, .string s.f3] 30 (0, 0)) ∧ s.f2.length ≤ c ∧ Kd.C (Kd.int .i64) W A s.f2.length s.f2 ∧ s.f2.length ≤ 1000000000000000000
theorem Bx.step {W w w' : World} {g : Nat} {s : S24} (h : Bx W g w s) (e : w'.heap[g]? = w.heap[g]?) : Bx W g w' s := by
  obtain ⟨A, c, h1, h2⟩ := h
  exact ⟨A, c, e.trans h1, h2⟩
theorem Bx.lt {W w : World} {g : Nat} {s : S24} (h : Bx W g w s) : g < w.heap.size := by
  obtain ⟨A, c, h1, _⟩ := h
  exact blk_lt h1
/-- the ends of a Save under one fall -/
theorem saveA_one (x y : Option ByteArray) (n : Int) (f : List Fal) (s : S24) (hf : f.length ≤ 1) :
    (chkS s.f0 s.f1 s.f2 s.f3 ≠ 0 ∧ saveA (idle x y n f (-1) false) s.f0 s.f1 s.f2 s.f3 = (idle x y n f (-1) false, chkS s.f0 s.f1 s.f2 s.f3))
    ∨ (IV (some (frameS (shotT s.f0 s.f1 s.f2 s.f3))) s ∧ saveA (idle x y n f (-1) false) s.f0 s.f1 s.f2 s.f3 = (idle (some (frameS (shotT s.f0 s.f1 s.f2 s.f3))) none (n + 2) f (-1) false, 0))
    ∨ (∃ x' y' n', (x' = x ∨ IV x' s) ∧ n ≤ n' ∧ n' ≤ n + 1 ∧ osz y' ≤ max (osz y) 131190 ∧ saveA (idle x y n f (-1) false) s.f0 s.f1 s.f2 s.f3 = (idle x' y' n' [] (-1) true, 21)) := by
  by_cases h0 : chkS s.f0 s.f1 s.f2 s.f3 = 0
  · have e : saveA (idle x y n f (-1) false) s.f0 s.f1 s.f2 s.f3 = saveK (idle x y n f (-1) false) (frameS (shotT s.f0 s.f1 s.f2 s.f3)) := if_pos h0
    have hiv : IV (some (frameS (shotT s.f0 s.f1 s.f2 s.f3))) s := Or.inr ⟨h0, rfl⟩
    have hz : (frameS (shotT s.f0 s.f1 s.f2 s.f3)).size ≤ 131190 := hiv.sz
    rw [e]
    right
    have h := save_idle x y n f (-1) (frameS (shotT s.f0 s.f1 s.f2 s.f3))
    generalize frameS (shotT s.f0 s.f1 s.f2 s.f3) = F at h hiv hz ⊢
    generalize saveK (idle x y n f (-1) false) F = p at h
    obtain ⟨p1, p2⟩ := p
    simp only at h
    have he : ∀ i, i < f.length → f.eraseIdx i = [] := fun i hi => by
      apply List.eq_nil_of_length_eq_zero
      rw [List.length_eraseIdx, if_pos hi]
      omega
    cases h with
    | ok => exact Or.inl ⟨hiv, rfl⟩
    | full h => exact absurd h (by decide)
    | fall1 i y' hi hy => exact Or.inr ⟨x, y', n, Or.inl rfl, by omega, by omega, by omega, by rw [he i hi]⟩
    | fall2 i x' y' hi hx =>
      right
      rcases hx with ⟨rfl, rfl⟩ | ⟨rfl, rfl⟩
      · exact ⟨_, some F, n + 1, Or.inl rfl, by omega, by omega, by show F.size ≤ _; omega, by rw [he i hi]⟩
      · exact ⟨_, none, n + 1, Or.inr hiv, by omega, by omega, by show 0 ≤ _; omega, by rw [he i hi]⟩
  · exact Or.inl ⟨h0, if_neg h0⟩
/-- the ends of a Load under one fall -/
theorem load_one (x y : Option ByteArray) (n : Int) (f : List Fal) : ∃ y' n' f' dn e, loadK (idle x y n f (-1) false) = (idle x y' n' f' (-1) dn, e) ∧ osz y' ≤ osz y ∧ (n ≤ n' ∧ n' ≤ n + 1) := by
  rcases load_cases x y n f (-1) with ⟨_, _, h⟩ | ⟨_, _, _, h⟩ | ⟨_, _, i, y', hi, hy, _, h⟩
  · exact ⟨_, _, _, _, _, h, Nat.zero_le _, by omega⟩
  · exact ⟨_, _, _, _, _, h, Nat.zero_le _, by omega⟩
  · refine ⟨_, _, _, _, _, h, ?_, by omega⟩
    rcases hy with rfl | rfl
    · exact Nat.le_refl _
    · exact Nat.zero_le _
theorem fail_any (x y : Option ByteArray) (n : Int) (f : List Fal) (r : Int) (dn : Bool) (keep torn : Int) : failK (idle x y n f r dn) keep torn = idle x y n f r true := by
  cases dn with
  | true => rfl
  | false => exact fail_idle x y n f r keep torn
theorem changes_calls2 {w : World} {d : Nat} {ok : Nat → Prop} {x y : Option ByteArray} {n : Int} {f : List Fal} {r : Int} {dn : Bool} (h : IsD w d ok (idle x y n f r dn)) : Calls Try.prog 29 #[.pointer (some ⟨d, 0, none⟩)] w fun e w' => e = .returned (.int .i64 n) ∧ w = w' := (changes_calls h).mono (fun e w' g => ⟨g.1, g.2.symm⟩)
end Go.Proofs.Ythjfofgcikfepaa.Q
