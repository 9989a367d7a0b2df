
/- parts.Put. -/
import Derived.Test.YtpgbkeaaklglkaaGreatDoorPf
import Derived.Test.YtpgbkeaaklglkaaGreatDoorPn
namespace Go.Proofs.YtpgbkeaaklglkaaGreatDoor.Q
open Go.RowKit Go.Proofs.YtpgbkeaaklglkaaGreatDoorW.PrintWords Go.Proofs.YtpgbkeaaklglkaaGreatDoorW.PrintLast Go.Proofs.YtpgbkeaaklglkaaGreatDoorW.PrintMore
set_option linter.unusedVariables false
set_option linter.unusedSimpArgs false
set_option maxHeartbeats 10000000
set_option maxRecDepth 100000
/-! ### parts.Put: a part that is there already, or one ahead of all others -/
theorem store4 {P : Program} {ops : Array Oper} {rest : List Oper} {o : Oper} {a : Act} {W : World} {Q : Exit → Act → World → Prop} (hN : o.dst = none) (hgd : o.guard = none) (t e : TypeId) (p x : Operand) (ho : o.op = .store t p x) {g : Nat} {c0 : Array Value}
  (u : Value) (cs : List Value) (haddr : a.eval p = .pointer (some ⟨g, 0, none⟩)) (hx : a.eval x = u) (hu : u.cells.toList = cs) (ht : (P.info? t).map (·.size) = some cs.length) (h1 : ∀ q ∈ cs, q.oneCell' = true)
  (hh : W.heap[g]? = some (.cells c0 e (0, 0))) (hc : c0.size = cs.length)
  (h : ∀ w1, w1.heap[g]? = some (.cells cs.toArray e (0, 0)) → W.grownBy w1 (some g) → wpList P ops Q rest a w1) : wpList P ops Q (o :: rest) a W := by
 have hrun := run_store_run (P := P) (o := 0) t u cs hh hu ht (by omega) h1
 obtain ⟨cur', h3, h4, h5⟩ := setCells_row cs 0 W c0 hh (by omega)
 obtain ⟨s1, s2, s3, s4⟩ := setCells_same g cs 0 W
 refine wpList_plain hgd fun K hK => ?_
 unfold Oper.wp execOp
 simp only [ho, haddr, hx, Sem.run_bind, Sem.run_pure, Result.andThen_ok, hrun]
 show K (a.put o.dst undef) _
 rw [hN]
 refine hK a _ (h _ ?_ ⟨s1, s2, s3, by rw [s4]; exact Nat.le_refl _, fun k' _ hk' => setCells_far cs _ k' (fun he => hk' (by rw [he]))⟩)
 rw [h3]
 congr 2
 apply Array.ext'
 rw [h5, List.take_zero, List.nil_append, List.drop_of_length_le (by rw [Array.length_toList]; omega), List.append_nil]
theorem C_single {w : World} {g : Nat} {x : S38} {A : Option Addr} {c : Nat} (hg : w.heap[g]? = some (.cells #[.int .i64 x.f0, .int .i64 x.f1, .string x.f2, .slice A x.f3.length c] 38 (0, 0))) (hc : x.f3.length ≤ c) (hr : k65.C w A x.f3.length x.f3) : k38.C w (some ⟨g, 0, none⟩) [x].length [x] :=
 ⟨rfl, by simp, fun _ => ⟨_, rfl, fun j p hj => by
  rcases j with _ | j
  ·simp only [List.getElem?_cons_zero, Option.some.injEq] at hj
   subst hj
   refine ⟨_, rfl, k38_mk w x hc hr, fun i u hu => ?_⟩
   rw [Nat.zero_mul, Nat.zero_add, Addr.add_lit, Nat.zero_add]
   simp only [World.cell?, hg]
   rw [← Array.getElem?_toList]
   exact hu
  ·simp at hj⟩⟩
theorem put_calls (k : Nat) (A0 : Option Addr) (c0 : Nat) (l : List S38) (x : S38) (Ax : Option Addr) (cx : Nat) (w : World) (hr0 : Kd.C k38 w A0 l.length l) (hc0 : l.length ≤ c0) (hrx : Kd.C k65 w Ax x.f3.length x.f3) (hcx : x.f3.length ≤ cx) (hl : l.length ≤ 1000000)
  (h1 : parts_right.f k l = some true) (h2 : parts_Check.f k x.f0 x.f1 x.f2 x.f3 = some 0) (h3 : parts_own.f k l = some l) (h4 : parts_own.f k [x] = some [x]) (i : Nat) (b : Bool) (h5 : parts_find.f l x.f0 = some ((i : Int), b)) (hcase : b = true ∧ i < l.length ∨ b = false ∧ i = 0) :
  Calls Tryz.prog 7 #[.slice A0 l.length c0, .agg #[.int .i64 x.f0, .int .i64 x.f1, .string x.f2, .slice Ax x.f3.length cx]] w fun e w' => ∃ v, e = .returned (.tuple #[v, .int .i64 0]) ∧ k38.R 38 w' w.heap.size (fun _ => True) v (if b = true then l.set i x else x :: l) ∧ Below w.heap.size w w' := by
 have hu38 := Tryz.underlying38
 have HR := Aside0.mk hr0
 have HC := Aside0.mk hc0
 have HX := Aside0.mk hrx
 have HCX := Aside0.mk hcx
 have HL := Aside0.mk hl
 have H1 := Aside0.mk h1
 have H2 := Aside0.mk h2
 have H3 := Aside0.mk h3
 have H4 := Aside0.mk h4
 have H5 := Aside0.mk h5
 have HCS := Aside0.mk hcase
 clear hr0 hc0 hrx hcx hl h1 h2 h3 h4 h5 hcase
 go_enter Tryz.func7, Tryz.ntmps7
 go_wp2_with ((with_reducible refine gate_dst (N := 3) rfl ?_); refine box_event ?hg (N := 3) ?hd (cs := #[.int .i64 x.f0, .int .i64 x.f1, .string x.f2, .slice Ax x.f3.length cx]) (t := 38) ?hr ?_; (case hd => rfl); (case hg => rfl); (case hr => first | (go_simp; done) | (go_simp; rfl)); intro gb hg w1 hbox hb; have B1 := Aside0.mk hb; have GB := Aside0.mk (Nat.le_of_eq hg.symm); have K1 := Aside0.mk hbox; clear hbox hg hb)
 refine (parts_right.calls k A0 c0 l true _ (Kd.C_below HR.out B1.out) HC.out H1.out).mono ?_
 rintro e w2 ⟨rfl, hb⟩
 have B2 := Aside0.mk (below_step B1.out hb)
 have K2 := Aside0.mk (blk_below K1.out hb)
 clear hb
 have hcz0 : w2.cell? ⟨gb, 0, none⟩ = some (.int .i64 x.f0) := (blk_cell K2.out 0).trans rfl
 have hcz1 : w2.cell? ⟨gb, 1, none⟩ = some (.int .i64 x.f1) := (blk_cell K2.out 1).trans rfl
 have hcz2 : w2.cell? ⟨gb, 2, none⟩ = some (.string x.f2) := (blk_cell K2.out 2).trans rfl
 have hcz3 : w2.cell? ⟨gb, 3, none⟩ = some (.slice Ax x.f3.length cx) := (blk_cell K2.out 3).trans rfl
 go_wp2_with (fail)
 refine (parts_Check.calls k x.f0 x.f1 x.f2 Ax cx x.f3 0 _ (Kd.C_below HX.out B2.out) HCX.out H2.out).mono ?_
 rintro e w3 ⟨rfl, hb⟩
 have B3 := Aside0.mk (below_step B2.out hb)
 have K3 := Aside0.mk (blk_below K2.out hb)
 clear hb hcz0 hcz1 hcz2 hcz3 K1 K2 B1 B2
 go_wp2_with (fail)
 refine (parts_own.calls k A0 c0 l l _ (Kd.C_below HR.out B3.out) HC.out H3.out).mono ?_
 rintro e w4 ⟨v1, rfl, hS, hb⟩
 have B4 := Aside0.mk (below_step B3.out hb)
 have K4 := Aside0.mk (blk_below K3.out hb)
 have S4 := Aside0.mk (Kd.R_lower (Kd.S_R hS) (below_size B3.out))
 have L4 := Aside0.mk (Kd.R_lt (Kd.S_R hS))
 clear hb hS K3 B3
 have hcz0 : w4.cell? ⟨gb, 0, none⟩ = some (.int .i64 x.f0) := (blk_cell K4.out 0).trans rfl
 have hcz1 : w4.cell? ⟨gb, 1, none⟩ = some (.int .i64 x.f1) := (blk_cell K4.out 1).trans rfl
 have hcz2 : w4.cell? ⟨gb, 2, none⟩ = some (.string x.f2) := (blk_cell K4.out 2).trans rfl
 have hcz3 : w4.cell? ⟨gb, 3, none⟩ = some (.slice Ax x.f3.length cx) := (blk_cell K4.out 3).trans rfl
 go_wp2_with ((with_reducible refine gate_dst (N := 21) rfl ?_); refine HaltP.out ?_)
 refine ⟨?_⟩
 refine Kd.event_run (v := .slice (some ⟨w4.heap.size, 0, none⟩) 1 1) (w1 := w4.alloc (.cells #[.int .i64 x.f0, .int .i64 x.f1, .string x.f2, .slice Ax x.f3.length cx] 38 (0, 0))) rfl ?hr1 ?_
 case hr1 => first | (go_simp; done) | (go_simp; rfl)
 obtain ⟨w5, hw5⟩ : ∃ w5, w5 = w4.alloc (.cells #[.int .i64 x.f0, .int .i64 x.f1, .string x.f2, .slice Ax x.f3.length cx] 38 (0, 0)) := ⟨_, rfl⟩
 rw [← hw5]
 obtain ⟨gs, hgs⟩ : ∃ gs, gs = w4.heap.size := ⟨_, rfl⟩
 rw [← hgs]
 have K5 := Aside0.mk (show w5.heap[gs]? = some (.cells #[.int .i64 x.f0, .int .i64 x.f1, .string x.f2, .slice Ax x.f3.length cx] 38 (0, 0)) by rw [hw5, hgs]; exact blk_new w4 _)
 have hb5 : Below w4.heap.size w4 w5 := by rw [hw5]; exact below_alloc (Below.refl _ _) _
 have B5 := Aside0.mk (below_step B4.out hb5)
 have L5 := Aside0.mk hb5.size
 have S5 := Aside0.mk (Kd.R_below S4.out hb5)
 have KB5 := Aside0.mk (blk_below K4.out hb5)
 clear hw5 hgs hb5 hcz0 hcz1 hcz2 hcz3 B4 S4 K4
 go_wp2_with (fail)
 refine (parts_own.calls k (some ⟨gs, 0, none⟩) 1 [x] [x] _ (C_single K5.out HCX.out (Kd.C_below HX.out B5.out)) (Nat.le_refl _) H4.out).mono ?_
 rintro e w6 ⟨v2, rfl, hS, hb⟩
 have B6 := Aside0.mk (below_step B5.out hb)
 have S6 := Aside0.mk (Kd.R_below S5.out hb)
 have KB6 := Aside0.mk (blk_below KB5.out hb)
 have HW56 := Aside0.mk (below_size hb)
 obtain ⟨g2, cap2, rfl, hb2, hlt2, _⟩ := Kd.S_form hS (by simp)
 have B6b := Aside0.mk (below_size B5.out)
 obtain ⟨cs, hcl, hM, hcc⟩ := Kd.S_get hS z38 0 (by omega) (by simp)
 obtain ⟨v3, rfl, hr3⟩ := k38_openM hM
 have hM : k38.M w6 w5.heap.size (fun k => True ∧ some k ≠ (Value.slice (some ⟨g2, 0, none⟩) [x].length cap2).ownBlock) x [.int .i64 x.f0, .int .i64 x.f1, .string x.f2, v3] := hM
 have M6 := Aside0.mk hM
 have y0 : w6.cell? ⟨g2, 0, none⟩ = some (.int .i64 x.f0) := by have h := hcc 0 _ rfl; rw [Addr.add_lit] at h; exact h
 have y1 : w6.cell? ⟨g2, 1, none⟩ = some (.int .i64 x.f1) := by have h := hcc 1 _ rfl; rw [Addr.add_lit] at h; exact h
 have y2 : w6.cell? ⟨g2, 2, none⟩ = some (.string x.f2) := by have h := hcc 2 _ rfl; rw [Addr.add_lit] at h; exact h
 have y3 : w6.cell? ⟨g2, 3, none⟩ = some (v3) := by have h := hcc 3 _ rfl; rw [Addr.add_lit] at h; exact h
 clear hcc hcl hM hr3 hS hb K5 S5 KB5 B5
 go_wp2_with ((with_reducible refine gate_dst (N := 7) rfl ?_); refine box_event ?hg (N := 7) ?hd (cs := #[.int .i64 0, .int .i64 0, .string ⟨#[]⟩, .slice none 0 0]) (t := 38) ?hr ?_; (case hd => rfl); (case hg => rfl); (case hr => first | (go_simp; done) | (go_simp; rfl)); intro gf hgf w7 hbox hb7; have HGF := Aside0.mk hgf; clear hgf; refine HaltP.out ?_)
 refine ⟨?_⟩
 have M7 := Aside0.mk (k38.M_move (fun k hk => hb7.block k hk.2.2.1) (k38.M_bound M6.out))
 refine store4 rfl rfl 38 38 _ _ rfl (.agg #[.int .i64 x.f0, .int .i64 x.f1, .string x.f2, v3]) [.int .i64 x.f0, .int .i64 x.f1, .string x.f2, v3] rfl rfl rfl (by kernel_rfl) (k38.K_one (k38.K_of_M M7.out)) hbox rfl ?_
 intro w8 hw8 hg8
 have hb68 : Below w6.heap.size w6 w8 := hb7.grown hg8 hb7.size (fun k hk => by injection hk with hk; have := HGF.out; omega)
 have B8 := Aside0.mk (below_step B6.out hb68)
 have S8 := Aside0.mk (Kd.R_below S6.out hb68)
 have KB8 := Aside0.mk (blk_below KB6.out hb68)
 have M8 := Aside0.mk (k38.M_move (fun k hk => hb68.block k hk.2.2.1) (k38.M_bound M6.out))
 have KF8 := Aside0.mk hw8
 clear hb68 hw8 hg8 hbox hb7 M7 M6 KB6 S6 B6 y0 y1 y2 y3
 have hcz0 : w8.cell? ⟨gb, 0, none⟩ = some (.int .i64 x.f0) := (blk_cell KB8.out 0).trans rfl
 obtain ⟨A1, c1, rfl⟩ := Kd.R_slice S8.out
 go_wp2_with (fail)
 refine (parts_find.calls A1 c1 l x.f0 i b _ (Kd.R_reads' S8.out).2.2 (Kd.R_reads' S8.out).2.1 H5.out).mono ?_
 rintro e w9 ⟨rfl, hb⟩
 have B9 := Aside0.mk (below_step B8.out hb)
 have S9 := Aside0.mk (Kd.R_below S8.out hb)
 have M9 := Aside0.mk (k38.M_move (fun k hk => hb.block k hk.2.2.1) (k38.M_bound M8.out))
 have KF9 := Aside0.mk (blk_below KF8.out hb)
 clear hb hcz0 B8 S8 M8 KF8 KB8
 have z0 : w9.cell? ⟨gf, 0, none⟩ = some (.int .i64 x.f0) := (blk_cell KF9.out 0).trans rfl
 have z1 : w9.cell? ⟨gf, 1, none⟩ = some (.int .i64 x.f1) := (blk_cell KF9.out 1).trans rfl
 have z2 : w9.cell? ⟨gf, 2, none⟩ = some (.string x.f2) := (blk_cell KF9.out 2).trans rfl
 have z3 : w9.cell? ⟨gf, 3, none⟩ = some v3 := (blk_cell KF9.out 3).trans rfl
 rcases HCS.out with ⟨rfl, hi⟩ | ⟨rfl, rfl⟩
 ·have hp : 0 < l.length := by omega
  obtain ⟨g1, cap1, he, _, hg1lt, _⟩ := Kd.R_form S9.out hp
  injection he with hA _ hc
  subst hA; subst hc
  obtain ⟨co, hcl, _, hcc⟩ := Kd.R_get S9.out z38 (i : Int) (by omega) (by omega)
  have hcl4 : co.length = 4 := hcl
  have hseg : co.take 0 ++ [.int .i64 x.f0, .int .i64 x.f1, .string x.f2, v3] ++ co.drop (0 + 4) = [.int .i64 x.f0, .int .i64 x.f1, .string x.f2, v3] := by
   rw [List.take_zero, List.nil_append, List.drop_of_length_le (by omega), List.append_nil]
  have hit : ((i : Nat) : Int).toNat = i := Int.toNat_natCast i
  have hin : (0 : Int) ≤ (i : Int) := Int.natCast_nonneg i
  have hlt : (i : Int) < (l.length : Int) := by omega
  have HI := Aside0.mk (And.intro hi (And.intro hcl (And.intro hcl4 hseg)))
  have HCC := Aside0.mk hcc
  clear hi hcl hcc hcl4 hseg hp
  go_wp2_with ((with_reducible refine gate_dst (N := 36) rfl ?_); refine HaltP.out ?_)
  refine ⟨?_⟩
  refine Kd.event_run (v := .pointer (some ⟨g1, i * 4, none⟩)) (w1 := w9) rfl ?hr1 ?_
  case hr1 => first | (go_simp; done) | (go_simp; rfl)
  have HM := Aside0.mk (k38.M_mono (ok' := fun k => w5.heap.size ≤ k) (fun k hk => hk.2.1) (k38.M_lower (base' := w.heap.size) B6b.out M9.out))
  refine Kd.R_store k38 (w0 := w) w.heap.size rfl rfl 38 (.tmp 36) (.tmp 35) rfl 38 (g := g1) (n := l.length) (cap := c1) (o' := i * 4) (i : Int) 0 l x (.agg #[.int .i64 x.f0, .int .i64 x.f1, .string x.f2, v3]) [.int .i64 x.f0, .int .i64 x.f1, .string x.f2, v3] co (fun _ => True) (fun k => w5.heap.size ≤ k) rfl (by rw [hit]; rfl) rfl rfl (by kernel_rfl) (k38.K_one (k38.K_of_M HM.out)) S9.out hin hlt HI.out.2.1 ?hcc (by simp [k38_sz]) ?hM (fun k hk => ⟨trivial, fun he => by have h1 := L4.out g1 rfl; have h2 := L5.out; omega⟩) B9.out ?_
  case hcc => intro j u hu; have h := HCC.out j u hu; rw [Addr.add_lit, Nat.zero_add] at h; exact h
  case hM => have h := HI.out.2.2.2; rw [show ([.int .i64 x.f0, .int .i64 x.f1, .string x.f2, v3] : List Value).length = 4 from rfl, h]; exact HM.out
  intro w10 hR hb _
  have R10 := Aside0.mk hR
  have B10 := Aside0.mk hb
  clear hR hb
  go_wp2
  go_ret2
  exact ⟨_, rfl, (by have h := R10.out; rw [hit] at h; exact h), B10.out⟩
 ·go_wp2_with ((with_reducible refine gate_dst (N := 41) rfl ?_); refine HaltP.out ?_)
  refine ⟨?_⟩
  refine Kd.event_run (v := .slice (some ⟨w9.heap.size, 0, none⟩) 1 1) (w1 := w9.alloc (.cells #[.int .i64 x.f0, .int .i64 x.f1, .string x.f2, v3] 38 (0, 0))) rfl ?hr1 ?_
  case hr1 => first | (go_simp; done) | (go_simp; rfl)
  obtain ⟨w10, hw10⟩ : ∃ w10, w10 = w9.alloc (.cells #[.int .i64 x.f0, .int .i64 x.f1, .string x.f2, v3] 38 (0, 0)) := ⟨_, rfl⟩
  rw [← hw10]
  obtain ⟨gn, hgn⟩ : ∃ gn, gn = w9.heap.size := ⟨_, rfl⟩
  rw [← hgn]
  have K10 := Aside0.mk (show w10.heap[gn]? = some (.cells #[.int .i64 x.f0, .int .i64 x.f1, .string x.f2, v3] 38 (0, 0)) by rw [hw10, hgn]; exact blk_new w9 _)
  have hb10 : Below w9.heap.size w9 w10 := by rw [hw10]; exact below_alloc (Below.refl _ _) _
  have B10 := Aside0.mk (below_step B9.out hb10)
  have S10 := Aside0.mk (Kd.R_below S9.out hb10)
  have M10 := Aside0.mk (k38.M_lower (base' := w.heap.size) (by have := B6b.out; omega) (k38.M_move (fun k hk => hb10.block k hk.2.2.1) (k38.M_bound M9.out)))
  have NE := Aside0.mk (show some gn ≠ (Value.slice A1 l.length c1).ownBlock from fun he => by have := Kd.R_lt S9.out gn he.symm; omega)
  clear hw10 hgn hb10 B9 S9 M9
  go_wp2_with (fail)
  refine (ins_R w.heap.size (fun _ => True) _ _ l x gn 1 _ _ S10.out K10.out rfl M10.out (fun k hk => ⟨trivial, fun he => by have h1 := L4.out k he.symm; have h2 := L5.out; have h3 := hk.2.1; omega⟩) (fun _ _ => trivial) NE.out HL.out (below_size B10.out)).mono ?_
  rintro e w11 ⟨v', rfl, hR, hb⟩
  have R11 := Aside0.mk hR
  have B11 := Aside0.mk (B10.out.trans hb)
  clear hR hb
  go_wp2
  go_ret2
  exact ⟨_, rfl, R11.out, B11.out⟩
end Go.Proofs.YtpgbkeaaklglkaaGreatDoor.Q