
/- parts.find. -/
import Derived.Test.YtpgbkeaaklglkaaGreatDoorPq
namespace Go.Proofs.YtpgbkeaaklglkaaGreatDoor.Q
open Go.RowKit Go.Proofs.YtpgbkeaaklglkaaGreatDoorW.PrintWords Go.Proofs.YtpgbkeaaklglkaaGreatDoorW.PrintLast Go.Proofs.YtpgbkeaaklglkaaGreatDoorW.PrintMore
set_option linter.unusedVariables false
set_option linter.unusedSimpArgs false
set_option maxHeartbeats 10000000
set_option maxRecDepth 100000
/-! ### parts.find: slices.BinarySearchFunc over parts -/
def srt (l : List S38) : Prop := (∀ x ∈ l, 1 ≤ x.f0 ∧ x.f0 ≤ 100) ∧ (∀ a b : Nat, a < b → b < l.length → (l.getD a z38).f0 < (l.getD b z38).f0)
def findI (l : List S38) (n : Int) : Nat := l.countP (fun x => decide (x.f0 < n))
def findB (l : List S38) (n : Int) : Bool := decide (findI l n < l.length) && decide ((l.getD (findI l n) z38).f0 = n)
open Classical in
noncomputable def parts_find.f (l : List S38) (n : Int) : Option (Int × Bool) := if srt l ∧ 1 ≤ n ∧ n ≤ 100 ∧ l.length ≤ 1000000 then some ((findI l n : Nat), findB l n) else none
theorem count_edge {α : Type} (z : α) (p : α → Bool) : ∀ (l : List α) (i : Nat), i ≤ l.length → (∀ t, t < i → p (l.getD t z) = true) → (∀ t, i ≤ t → t < l.length → p (l.getD t z) = false) → l.countP p = i
 | [], i, hi, _, _ => by simp at hi; simp [hi]
 | a :: r, 0, _, _, h2 => by
  rw [List.countP_eq_zero]
  intro x hx
  obtain ⟨t, ht, rfl⟩ := List.getElem_of_mem hx
  have := h2 t (Nat.zero_le _) ht
  rw [show (a :: r).getD t z = (a :: r)[t] by simp only [List.getD, List.getElem?_eq_getElem ht, Option.getD_some]] at this
  simp [this]
 | a :: r, i + 1, hi, h1, h2 => by
  have ha : p a = true := by simpa using h1 0 (Nat.succ_pos _)
  rw [List.countP_cons_of_pos ha, count_edge z p r i (by simpa using hi) (fun t ht => by simpa using h1 (t + 1) (by omega)) (fun t h3 h4 => by simpa using h2 (t + 1) (by omega) (by simpa using h4))]
theorem find1_calls (a0 a1 : Int) (a2 : ByteArray) (v3 : Value) (hv : ∃ A m c, v3 = .slice A m c) (n : Int) (ha : 1 ≤ a0 ∧ a0 ≤ 100) (hn : 1 ≤ n ∧ n ≤ 100) (w : World) :
  Calls Tryz.prog 52 #[.agg #[.int .i64 a0, .int .i64 a1, .string a2, v3], .int .i64 n] w fun e w' => e = .returned (.int .i64 (a0 - n)) ∧ Below w.heap.size w w' := by
 obtain ⟨A, m, c, rfl⟩ := hv
 have hu38 := Tryz.underlying38
 have HA := Aside0.mk ha
 have HN := Aside0.mk hn
 have hw : wrap64 (a0 - n) = a0 - n := IntWalk.wrap64_in _ (by omega)
 clear ha hn
 have HB := Aside0.mk (Below.refl w.heap.size w)
 go_enter Tryz.func52, Tryz.ntmps52
 go_wp2_with ((with_reducible refine gate_dst (N := 2) rfl ?_); refine box_event ?hg (N := 2) ?hd (cs := #[.int .i64 a0, .int .i64 a1, .string a2, .slice A m c]) (t := 38) ?hr ?_; (case hd => rfl); (case hg => rfl); (case hr => first | (go_simp; done) | (go_simp; rfl)); intro gb hg w4 hbox hb; have B1 := Aside0.mk hb; clear hb; have hcz := (blk_cell hbox 0).trans rfl; have hfz := blk_frozen hbox 0; clear hbox hg)
 go_ret
 exact ⟨by first | rfl | simp [hw], B1.out⟩
set_option maxHeartbeats 10000000 in
theorem bsf_calls (A : Option Addr) (c : Nat) (l : List S38) (n : Int) (w : World) (hr : Kd.C k38 w A l.length l) (hs : srt l) (hn : 1 ≤ n ∧ n ≤ 100) (hl : l.length ≤ 1000000) :
  Calls Tryz.prog 51 #[.slice A l.length c, .int .i64 n, .func (.func 52) #[] #[]] w fun e w' => e = .returned (.tuple #[.int .i64 (findI l n : Nat), .bool (findB l n)]) ∧ Below w.heap.size w w' := by
 have hu38 := Tryz.underlying38
 have HR := Aside0.mk hr
 have HS := Aside0.mk hs
 have HN := Aside0.mk hn
 have HL := Aside0.mk hl
 have HB := Aside0.mk (Below.refl w.heap.size w)
 obtain ⟨q, hq⟩ : ∃ q, q = l.length := ⟨_, rfl⟩
 have HQ := Aside0.mk hq
 have hq1 : q ≤ 1000000 := by omega
 obtain ⟨fi, hfi⟩ : ∃ fi, fi = findI l n := ⟨_, rfl⟩
 have FI := Aside0.mk hfi
 obtain ⟨fb, hfb⟩ : ∃ fb, fb = findB l n := ⟨_, rfl⟩
 have FB := Aside0.mk hfb
 have M : ∀ a b : Nat, a ≤ b → b < l.length → (l.getD b z38).f0 < n → (l.getD a z38).f0 < n := fun a b h1 h2 h3 => by
  rcases Nat.lt_or_eq_of_le h1 with h | rfl
  ·exact Int.lt_trans (hs.2 a b h h2) h3
  ·exact h3
 have M1 := Aside0.mk M
 rw [← hq, ← hfi, ← hfb]
 clear hr hs hn hl hq hfi hfb M
 have G : ∀ (i : Nat) (w' : World), i < q → Below w.heap.size w w' → ∃ ad A3 c3, A = some ad ∧ w'.cell? (ad.add (i * 4)) = some (.int .i64 (l.getD i z38).f0) ∧ w'.cell? ⟨(ad.add (i * 4)).block, (ad.add (i * 4)).off + 1, none⟩ = some (.int .i64 (l.getD i z38).f1) ∧ w'.cell? ⟨(ad.add (i * 4)).block, (ad.add (i * 4)).off + 2, none⟩ = some (.string (l.getD i z38).f2) ∧ w'.cell? ⟨(ad.add (i * 4)).block, (ad.add (i * 4)).off + 3, none⟩ = some (.slice A3 (l.getD i z38).f3.length c3) ∧ (1 ≤ (l.getD i z38).f0 ∧ (l.getD i z38).f0 ≤ 100) := fun i w' hi hb => by
  have h1 := HQ.out
  obtain ⟨ad, A3, c3, e, x0, x1, x2, x3, _, _⟩ := at_T38 HR.out (i : Int) (by omega) (by omega)
  simp only [rd_T38, Int.toNat_natCast] at x0 x1 x2 x3
  refine ⟨ad, A3, c3, e, ?_, ?_, ?_, ?_, HS.out.1 _ ?_⟩
  ·exact (hb.cell (World.block_lt_of_cell? w _ x0)).trans x0
  ·exact (hb.cell (World.block_lt_of_cell? w _ x1)).trans x1
  ·exact (hb.cell (World.block_lt_of_cell? w _ x2)).trans x2
  ·exact (hb.cell (World.block_lt_of_cell? w _ x3)).trans x3
  ·rw [List.getD_eq_getElem?_getD, List.getElem?_eq_getElem (by omega)]; exact List.getElem_mem _
 have G1 := Aside0.mk G
 clear G
 go_enter Tryz.func51, Tryz.ntmps51
 go_wp2
 go_loopg [9, 10] q (fun kx s9 s10 wr => ∃ lo hi : Nat, s9 = .int .i64 lo ∧ s10 = .int .i64 hi ∧ lo ≤ hi ∧ hi ≤ q ∧ hi - lo ≤ kx ∧ Aside0 (Below w.heap.size w wr) ∧
  Aside0 ((∀ t, t < lo → (l.getD t z38).f0 < n) ∧ (∀ t, hi ≤ t → t < q → n ≤ (l.getD t z38).f0)))
 case atStart => exact ⟨0, q, rfl, rfl, Nat.zero_le _, Nat.le_refl _, by omega, HB, ⟨⟨fun t ht => absurd ht (Nat.not_lt_zero _), fun t h1 h2 => by omega⟩⟩⟩
 case round =>
  clear HB
  obtain ⟨lo, hi, rfl, rfl, hlh, hin, hg, B1, I⟩ := hrel
  by_cases hlt : lo < hi
  ·obtain ⟨ad, A3, c3, rfl, x0, x1, x2, x3, hy⟩ := G1.out ((lo + hi) / 2) _ (by omega) B1.out
   obtain ⟨y, hyd⟩ : ∃ y, y = (l.getD ((lo + hi) / 2) z38) := ⟨_, rfl⟩
   rw [← hyd] at x0 x1 x2 x3 hy
   obtain ⟨y0, y1, y2, y3⟩ := y
   simp only at x0 x1 x2 x3 hy
   have Y := Aside0.mk hyd
   have YB := Aside0.mk hy
   clear hyd hy
   by_cases hyx : y0 - n < 0
   ·go_wp2_with (fail)
    refine (find1_calls y0 y1 y2 _ ⟨_, _, _, rfl⟩ n YB.out HN.out _).mono ?_
    rintro e w' ⟨rfl, hb⟩
    have B2 := Aside0.mk (below_step B1.out hb)
    clear hb
    go_wp2
    go_roundg (hi - ((lo + hi) / 2 + 1))
    case measure => omega
    case rel =>
     have I2 : (∀ t, t < (lo + hi) / 2 + 1 → (l.getD t z38).f0 < n) ∧ (∀ t, hi ≤ t → t < q → n ≤ (l.getD t z38).f0) := ⟨fun t ht => M1.out t ((lo + hi) / 2) (by omega) (by have := HQ.out; omega) (by rw [← Y.out]; show y0 < n; omega), I.out.2⟩
     exact ⟨(lo + hi) / 2 + 1, hi, by rw [show ((lo : Int) + (hi : Int)) / 2 + 1 = (((lo + hi) / 2 + 1 : Nat) : Int) by omega], rfl, by omega, hin, Nat.le_refl _, B2, ⟨I2⟩⟩
   ·go_wp2_with (fail)
    refine (find1_calls y0 y1 y2 _ ⟨_, _, _, rfl⟩ n YB.out HN.out _).mono ?_
    rintro e w' ⟨rfl, hb⟩
    have B2 := Aside0.mk (below_step B1.out hb)
    clear hb
    go_wp2
    go_roundg ((lo + hi) / 2 - lo)
    case measure => omega
    case rel =>
     have I2 : (∀ t, t < lo → (l.getD t z38).f0 < n) ∧ (∀ t, (lo + hi) / 2 ≤ t → t < q → n ≤ (l.getD t z38).f0) := ⟨I.out.1, fun t ht htn => Int.not_lt.1 fun h => by have h2 := M1.out ((lo + hi) / 2) t ht (by have := HQ.out; omega) h; rw [← Y.out] at h2; have h3 : y0 < n := h2; omega⟩
     exact ⟨lo, (lo + hi) / 2, rfl, by rw [show ((lo : Int) + (hi : Int)) / 2 = (((lo + hi) / 2 : Nat) : Int) by omega], by omega, by omega, Nat.le_refl _, B2, ⟨I2⟩⟩
  ·obtain rfl : hi = lo := by omega
   have ecnt : fi = hi := by
    rw [FI.out]
    refine count_edge z38 _ l hi (by have := HQ.out; omega) (fun t ht => ?_) (fun t h3 h4 => ?_)
    ·exact decide_eq_true (I.out.1 t ht)
    ·exact decide_eq_false (by have := I.out.2 t h3 (by have := HQ.out; omega); omega)
   subst ecnt
   have hfb : fb = (decide (fi < q) && decide ((l.getD fi z38).f0 = n)) := by rw [FB.out, HQ.out, findB, ← FI.out]
   by_cases hn : fi < q
   ·obtain ⟨ad, A3, c3, rfl, x0, x1, x2, x3, hy⟩ := G1.out fi _ hn B1.out
    obtain ⟨y, hyd⟩ : ∃ y, y = (l.getD fi z38) := ⟨_, rfl⟩
    rw [← hyd] at x0 x1 x2 x3 hy hfb
    obtain ⟨y0, y1, y2, y3⟩ := y
    simp only at x0 x1 x2 x3 hy hfb
    have YB := Aside0.mk hy
    have FF := Aside0.mk hfb
    clear hyd hy hfb
    by_cases hyx : y0 - n = 0
    ·go_wp2_with (fail)
     refine (find1_calls y0 y1 y2 _ ⟨_, _, _, rfl⟩ n YB.out HN.out _).mono ?_
     rintro e w' ⟨rfl, hb⟩
     have B2 := Aside0.mk (below_step B1.out hb)
     clear hb
     go_wp2
     go_ret2
     exact ⟨by rw [FF.out, decide_eq_true hn, decide_eq_true (show y0 = n by omega)]; simp [hyx], B2.out⟩
    ·go_wp2_with (fail)
     refine (find1_calls y0 y1 y2 _ ⟨_, _, _, rfl⟩ n YB.out HN.out _).mono ?_
     rintro e w' ⟨rfl, hb⟩
     have B2 := Aside0.mk (below_step B1.out hb)
     clear hb
     go_wp2
     go_ret2
     exact ⟨by rw [FF.out, decide_eq_true hn, decide_eq_false (show ¬ y0 = n by omega)]; simp [hyx], B2.out⟩
   ·have FF := Aside0.mk hfb
    clear hfb
    go_wp2
    go_ret2
    exact ⟨by rw [FF.out, decide_eq_false hn]; simp, B1.out⟩
theorem parts_find.calls (A0 : Option Addr) (c0 : Nat) (l0 : List S38) (n : Int) (r1 : Int) (r2 : Bool) (w : World) (hr0 : Kd.C k38 w A0 l0.length l0) (hc0 : l0.length ≤ c0) (h : parts_find.f l0 n = some (r1, r2)) :
  Calls Tryz.prog 23 #[.slice A0 l0.length c0, .int .i64 n] w fun e w' => e = .returned (.tuple #[.int .i64 r1, .bool r2]) ∧ Below w.heap.size w w' := by
 unfold parts_find.f at h
 by_cases hc : srt l0 ∧ 1 ≤ n ∧ n ≤ 100 ∧ l0.length ≤ 1000000
 case neg => rw [if_neg hc] at h; cases h
 rw [if_pos hc] at h
 have h2 := Option.some.inj h
 simp only [Prod.mk.injEq] at h2
 rw [← h2.1, ← h2.2]
 have HC := Aside0.mk hc
 have HR := Aside0.mk hr0
 clear h h2 hc hr0 hc0
 go_enter Tryz.func23, Tryz.ntmps23
 go_wp2_with (go_at_call 51; refine (bsf_calls A0 c0 l0 n _ HR.out HC.out.1 ⟨HC.out.2.1, HC.out.2.2.1⟩ HC.out.2.2.2).mono ?_; rintro e w' ⟨rfl, hb⟩; have B2 := Aside0.mk hb; clear hb)
 go_ret2
 exact ⟨rfl, B2.out⟩
end Go.Proofs.YtpgbkeaaklglkaaGreatDoor.Q