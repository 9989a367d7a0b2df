
/- The disk's changes. -/
import Derived.Outline
import Derived.Test.YtpgbkeaaklglkaaGreatDoorDk1
import Derived.Laws.OwnMore
namespace Go.Proofs.YtpgbkeaaklglkaaGreatDoor.Q
open Go.Maps Go.WideShapes Go.WideMaps Go.RowKit Go.Proofs.YtpgbkeaaklglkaaGreatDoorW.PrintWords Go.Proofs.YtpgbkeaaklglkaaGreatDoorW.PrintLast Go.Proofs.YtpgbkeaaklglkaaGreatDoorW.PrintMore
set_option linter.unusedVariables false
set_option linter.unusedSimpArgs false
set_option maxHeartbeats 10000000
set_option maxRecDepth 100000
/-! slices.Delete at falls -/
def pfs (l : List Fal) : List Value := l.flatMap csF
theorem pfs_append (l m : List Fal) : pfs (l ++ m) = pfs l ++ pfs m := List.flatMap_append
theorem pfs_len (l : List Fal) : (pfs l).length = l.length * 3 := by
 induction l with
 | nil => rfl
 | cons p l ih =>
  show (csF p ++ pfs l).length = _
  rw [List.length_append, ih]
  show 3 + l.length * 3 = (l.length + 1) * 3
  omega
theorem pfs_oneCell (l : List Fal) : ∀ u ∈ pfs l, u.oneCell' = true := by
 intro u hu
 obtain ⟨p, _, hp⟩ := List.mem_flatMap.1 hu
 simp only [csF, List.mem_cons, List.not_mem_nil, or_false] at hp
 rcases hp with rfl | rfl | rfl <;> rfl
theorem info_parts {P : Program} {e : TypeId} {z : Value} {a b : Nat} (h : (P.info? e).map (fun i => (i.zero, i.size, i.bytes)) = some (some z, a, b)) : ∃ i, P.info? e = some i ∧ i.zero = some z ∧ i.size = a ∧ i.bytes = b := by
 obtain ⟨i, hi, hz⟩ := Option.map_eq_some_iff.1 h
 simp only [Prod.mk.injEq] at hz
 exact ⟨i, hi, hz.1, hz.2.1, hz.2.2⟩
theorem step_fits {P : Program} {ops : Array Oper} {o : Oper} {a : Act} {K : Act → World → Prop} {Q : Exit → Act → World → Prop} {w : World} (hw : Region.wanted o (yielded ops a.tmps) = true) (s x : Operand) (t : TypeId)
  (ho : o.op = .call { callee := .builtin .append, args := #[s, x], argTypes := #[t, t] })
  (base : Nat) (e : TypeId) (i : TypeInfo) (size : Nat) (ht : P.underlying t = some (.slice e)) (hi : P.info? e = some i) (hsize : i.size = size)
  (g n cap : Nat) (xs : List Value) (hs : a.eval s = .slice (some ⟨g, 0, none⟩) n cap) (hown : w.ownsRow base e size (.slice (some ⟨g, 0, none⟩) n cap) n xs)
  (ad : Addr) (m c : Nat) (news : List Value) (hx : a.eval x = .slice (some ad) m c) (hl : news.length = m * size) (hnews : ∀ j u, news[j]? = some u → w.cell? (ad.add j) = some u) (h1 : ∀ u ∈ news, u.oneCell' = true) (hroom : n + m ≤ cap)
  (h : ∀ w', w'.ownsRow base e size (.slice (some ⟨g, 0, none⟩) (n + m) cap) (n + m) (xs ++ news) → w.grownBy w' (some g) → K (a.put o.dst (.slice (some ⟨g, 0, none⟩) (n + m) cap)) w') :
  if Region.wanted o (yielded ops a.tmps) = true then Oper.wp P o a w K Q else K (a.put o.dst undef) w := by
 obtain ⟨w', hr, h2, h3⟩ := run_append_fits (P := P) w base t o.type e i size ht hi hsize g n cap xs hown ad m c news hl hnews h1 hroom
 rw [if_pos hw]
 unfold Oper.wp execOp
 simp only [ho, resolve, invoke, builtin, Sem.run_bind, Sem.run_pure, Result.andThen_ok, List.map_toArray, List.map_cons, List.map_nil, hs, hx, hr]
 exact h w' h2 h3
theorem pfs_take (l : List Fal) (i : Nat) : (pfs l).take (i * 3) = pfs (l.take i) := by
 induction l generalizing i with
 | nil => simp [pfs]
 | cons p l ih =>
  have hc : pfs (p :: l) = csF p ++ pfs l := rfl
  cases i with
  | zero => simp [pfs]
  | succ i =>
   rw [hc, List.take_append, List.take_of_length_le (by show (csF p).length ≤ _; simp; omega), show (i + 1) * 3 - (csF p).length = i * 3 by simp; omega, ih i]
   rfl
theorem pfs_drop (l : List Fal) (i : Nat) : (pfs l).drop (i * 3) = pfs (l.drop i) := by
 induction l generalizing i with
 | nil => simp [pfs]
 | cons p l ih =>
  have hc : pfs (p :: l) = csF p ++ pfs l := rfl
  cases i with
  | zero => simp [pfs]
  | succ i =>
   rw [hc, List.drop_append, List.drop_of_length_le (by show (csF p).length ≤ _; simp; omega), show (i + 1) * 3 - (csF p).length = i * 3 by simp; omega, ih i]
   rfl
theorem own_there {w : World} {base b n c size : Nat} {e : TypeId} {xs : List Value} (h : w.ownsRow base e size (.slice (some ⟨b, 0, none⟩) n c) n xs) (j : Nat) (hj : j < c * size) : (w.cell? ⟨b, j, none⟩).isSome = true := by
 rcases h.2 with ⟨h', _⟩ | ⟨g, cap, cur, h', hb, hg, hnc, hcm, hcs, htake⟩
 ·simp at h'
 ·simp only [Value.slice.injEq, Option.some.injEq, Addr.mk.injEq, and_true, true_and] at h'
  obtain ⟨rfl, rfl⟩ := h'
  rw [cell_of_row w b j cur e (0, 0) hg, Array.getElem?_eq_getElem (by omega)]
  rfl
theorem zeroF (w : World) : (zeroValue 134).run Tryz.prog w = .ok (.agg #[(.int .i64 0), (.int .i64 0), (.int .i64 0)]) w := by
 obtain ⟨i, hi, hz0, hz1, hz2⟩ := info_parts infoF
 simp [zeroValue, typeInfo, hi, hz0]
theorem run_clear_rows {P : Program} (w : World) (t e ty : TypeId) (z : Value) (k : Nat) (ht : P.underlying t = some (.slice e)) (hv : ∀ w, (zeroValue e).run P w = .ok z w) (hz : z.cells.size = k) (hk : 0 < k) (h1 : ∀ u ∈ z.cells.toList, u.oneCell' = true) (b o n c : Nat)
  (hc : ∀ j, j < n * k → (w.cell? ⟨b, o + j, none⟩).isSome = true) (hf : ∀ j, j < n * k → w.frozen? ⟨b, o + j, none⟩ = false) :
  ∃ vs, (Builtin.clear_ #[t] ty #[.slice (some ⟨b, o, none⟩) n c]).run P w = .ok (.tuple #[]) (w.setCells b o vs) := by
 cases n with
 | zero => exact ⟨[], by simp [Builtin.clear_, run_underlying ht, World.setCells]⟩
 | succ m =>
  have hlen : (Builtin.zeroCells z.cells (m + 1)).toList.length = (m + 1) * k := by simp [Builtin.zeroCells, hz, Nat.mul_comm]
  refine ⟨(Builtin.zeroCells z.cells (m + 1)).toList, ?_⟩
  have hst := run_storeCells_cells (P := P) b o (Builtin.zeroCells z.cells (m + 1)).toList 0 w (fun j hj => by first | exact hc j (by omega) | (simp; exact hc j (by omega))) (fun j hj => by first | exact hf j (by omega) | (simp; exact hf j (by omega))) (by
   intro v hv'
   simp only [Builtin.zeroCells, Array.toList_map, List.mem_map] at hv'
   obtain ⟨q, _, rfl⟩ := hv'
   have hq : q % z.cells.size < z.cells.size := Nat.mod_lt _ (by omega)
   rw [getElem!_pos z.cells _ hq]
   exact h1 _ (by simp))
  simp only [Nat.add_zero] at hst
  simp [Builtin.clear_, run_underlying ht, hv, hst]
theorem clearF (w : World) (ty : TypeId) (base b n c m k : Nat) (xs : List Value) (h : w.ownsRow base 134 3 (.slice (some ⟨b, 0, none⟩) n c) n xs) (hk : m + k ≤ c) (c' : Nat) :
  ∃ vs, (Builtin.clear_ #[60] ty #[.slice (some ⟨b, m * 3, none⟩) k c']).run Tryz.prog w = .ok (.tuple #[]) (w.setCells b (m * 3) vs) :=
 run_clear_rows w 60 134 ty _ 3 Tryz.underlying60 zeroF rfl (by omega) (by simp [Value.oneCell', Value.cells]) b (m * 3) k c' (fun j hj => own_there h _ (by omega)) (fun j _ => h.frozenAt _)
/-- A shorter slice of an own row owns what it holds. -/
theorem own_take {w : World} {base b c : Nat} {l : List Fal} (h : w.ownsRow base 134 3 (.slice (some ⟨b, 0, none⟩) l.length c) l.length (pfs l)) (i : Nat) (hi : i ≤ l.length) : w.ownsRow base 134 3 (.slice (some ⟨b, 0, none⟩) i c) i (pfs (l.take i)) := by
 refine ⟨by rw [pfs_len, List.length_take, Nat.min_eq_left hi], ?_⟩
 rcases h.2 with ⟨h', _⟩ | ⟨g, cap, cur, h', hb, hg, hnc, hcm, hcs, htake⟩
 ·simp at h'
 ·simp only [Value.slice.injEq, Option.some.injEq, Addr.mk.injEq, and_true, true_and] at h'
  obtain ⟨rfl, rfl⟩ := h'
  refine .inr ⟨b, c, cur, rfl, hb, hg, by omega, hcm, hcs, ?_⟩
  rw [← pfs_take, ← htake, List.take_take, Nat.min_eq_left (Nat.mul_le_mul_right _ hi)]
/-- The cells of a row behind its i-th element. -/
theorem own_news {w : World} {base b c : Nat} {l : List Fal} (h : w.ownsRow base 134 3 (.slice (some ⟨b, 0, none⟩) l.length c) l.length (pfs l)) (i : Nat) (hi : i ≤ l.length) {A : Addr} (hA : i < l.length → A = ⟨b, i * 3, none⟩) : ∀ j u, (pfs (l.drop i))[j]? = some u → w.cell? (A.add j) = some u := by
 intro j u hu
 have hj : j < (pfs (l.drop i)).length := (List.getElem?_eq_some_iff.1 hu).1
 rw [pfs_len, List.length_drop] at hj
 rw [hA (by omega), show (⟨b, i * 3, none⟩ : Addr).add j = ⟨b, i * 3 + j, none⟩ by unfold Addr.add; split <;> simp_all, h.cellAt _ (by omega), ← hu, ← pfs_drop, List.getElem?_drop]
theorem own_setCells_far {base : Nat} {e : TypeId} {size b n cap : Nat} {xs : List Value} : ∀ (vs : List Value) (o : Nat) (w : World), w.ownsRow base e size (.slice (some ⟨b, 0, none⟩) n cap) n xs → n * size ≤ o → (w.setCells b o vs).ownsRow base e size (.slice (some ⟨b, 0, none⟩) n cap) n xs ∧ w.grownBy (w.setCells b o vs) (some b)
 | [], o, w, h, _ => ⟨h, World.grownBy.refl _ _⟩
 | v :: vs, o, w, h, ho => by
  obtain ⟨h1, h2⟩ := h.stored o v
  rw [List.set_eq_of_length_le (by rw [h.1]; exact ho)] at h1
  obtain ⟨h3, h4⟩ := own_setCells_far vs (o + 1) _ h1 (by omega)
  exact ⟨h3, h2.trans h4⟩

theorem dfalls_own (base b c : Nat) (l : List Fal) (i : Nat) (w : World) (h : w.ownsRow base 134 3 (.slice (some ⟨b, 0, none⟩) l.length c) l.length (pfs l)) (hi : i < l.length) :
  Calls Tryz.prog 84 #[.slice (some ⟨b, 0, none⟩) l.length c, .int .i64 (i : Int), .int .i64 ((i : Int) + 1)] w fun e w' => e = .returned (.slice (some ⟨b, 0, none⟩) (l.eraseIdx i).length c) ∧ w'.ownsRow base 134 3 (.slice (some ⟨b, 0, none⟩) (l.eraseIdx i).length c) (l.eraseIdx i).length (pfs (l.eraseIdx i)) ∧ w.grownBy w' (some b) := by
 have hlc : l.length ≤ c := own_le h
 obtain ⟨n, hn⟩ : ∃ n, n = l.length := ⟨_, rfl⟩
 have b0 : (0 : Int) ≤ (i : Int) := by omega
 have b1 : (i : Int) ≤ (i : Int) + 1 := by omega
 have b2 : (i : Int) + 1 ≤ (n : Int) := by omega
 have b3 : (n : Int) ≤ (c : Int) := by omega
 have b4 : (i : Int) + 1 ≤ (c : Int) := by omega
 have b5 : (i : Int) ≤ (c : Int) := by omega
 have b7 : (0 : Int) ≤ (i : Int) + 1 := by omega
 obtain ⟨A, hA, hsrc⟩ : ∃ A : Addr, (if c = i + 1 then some (⟨b, 0, none⟩ : Addr) else some ⟨b, (i + 1) * 3, none⟩) = some A ∧ Aside0 (∀ j u, (pfs (l.drop (i + 1)))[j]? = some u → w.drew.cell? (A.add j) = some u) := by
  by_cases hh : c = i + 1
  ·exact ⟨_, if_pos hh, ⟨own_news h (i + 1) (by omega) (fun hx => by omega)⟩⟩
  ·exact ⟨_, if_neg hh, ⟨own_news h (i + 1) (by omega) (fun hx => rfl)⟩⟩
 have b6 : ((i : Int) == (i : Int) + 1) = false := beq_eq_false_iff_ne.mpr (by omega)
 have H := Aside0.mk h
 have Hn := Aside0.mk hn
 have Hi := Aside0.mk hi
 rw [← hn]
 clear h hn hi hlc
 go_enter Tryz.func84, Tryz.ntmps84
 go_upto_region 5 with (fail)
 refine start_ (n := 8) (S := fun _ => True) (ds := [8]) #[false, false, false, false, false, false, false, false] (by kernel_rfl) rfl rfl trivial (fun hHeld => ?_)
 refine pz 0 20 ?_
 refine pz 1 21 ?_
 refine pz 2 22 ?_
 refine pz 3 23 ?_
 refine pz 4 24 ?_
 refine pz 5 25 ?_
 refine one_ (i := 6) (N := some 26) #[true, true, true, true, true, true, true, false] rfl rfl (by kernel_rfl) (by decide) (fun K hK => ?_)
 obtain ⟨i0, hi0, hz0, hz1, hz2⟩ := info_parts infoF
 have hlen := Hn.out
 have hlc : (l.drop (i + 1)).length = n - (i + 1) := by rw [List.length_drop]; omega
 refine step_fits (by rfl) _ _ _ (by rfl) base 134 i0 3 Tryz.underlying60 hi0 hz1 b i c (pfs (l.take i)) (by rfl) (own_take (w := w.drew) H.out i (by have := Hi.out; omega)) A (n - (i + 1)) (c - (i + 1)) (pfs (l.drop (i + 1))) (by rfl) (by rw [pfs_len, hlc]) hsrc.out (pfs_oneCell _) (by have := Hi.out; omega) ?_
 clear hlen
 obtain ⟨m, hm1⟩ : ∃ m, n = m + 1 := ⟨n - 1, by have := Hi.out; have := Hn.out; omega⟩
 subst hm1
 rw [show i + (m + 1 - (i + 1)) = m by have := Hi.out; have := Hn.out; omega]
 intro w1 hown1 hgrow1
 refine hK.out _ _ trivial (fun hHeld => ?_)
 clear hK K
 refine nz 26 ?_
 refine pz 7 0 ?_
 refine done_ (by kernel_rfl) ?_
 go_upto_region 6 with (fail)
 have hcm : ¬ (c = m) := by omega
 have m0 : (0 : Int) ≤ (m : Int) := by omega
 have m1 : (m : Int) ≤ (m : Int) + 1 := by omega
 have m2 : ((m : Int) + 1) ≤ (c : Int) := by omega
 obtain ⟨vs, hcl⟩ := clearF w1 0 base b m c m 1 _ hown1 (by omega) (c - m)
 have HO := Aside0.mk hown1
 have HG := Aside0.mk hgrow1
 clear hown1 hgrow1 hA b0 b1 b2 b3 b4 b5 b7 b6 hlc
 go_wp2
 go_ret
 have hl : (l.eraseIdx i).length = m := by rw [List.length_eraseIdx, if_pos Hi.out, ← Hn.out]; rfl
 have hp : pfs (l.take i) ++ pfs (l.drop (i + 1)) = pfs (l.eraseIdx i) := by rw [← pfs_append, List.eraseIdx_eq_take_drop_succ]
 rw [hp] at HO
 obtain ⟨h1, h2⟩ := own_setCells_far vs (m * 3) w1 HO.out (Nat.le_refl _)
 rw [hl]
 have hg3 : w.grownBy w1 (some b) := ⟨HG.out.os, HG.out.tape, HG.out.output, HG.out.size, HG.out.block⟩
 exact ⟨rfl, h1, hg3.trans h2⟩
/-! falls as cells, and as a row -/
theorem reps_falls {R : Fal → List Value → Prop} (hR : ∀ x, R x (csF x)) : ∀ l : List Fal, Reps R 3 l (pfs l)
 | l => by
  refine ⟨by rw [pfs_len], fun j p hj => ?_⟩
  have hlt := (List.getElem?_eq_some_iff.1 hj).1
  have he := (List.getElem?_eq_some_iff.1 hj).2
  rw [pfs_drop, List.drop_eq_getElem_cons hlt, he]
  show R p ((csF p ++ pfs (l.drop (j + 1))).take 3)
  rw [List.take_append_of_le_length (show 3 ≤ (csF p).length from Nat.le_refl 3)]
  exact hR p
theorem falls_cells {R : Fal → List Value → Prop} (hR : ∀ x cs, R x cs → cs = csF x) : ∀ (l : List Fal) (inner : List Value), Reps R 3 l inner → inner = pfs l
 | [], inner, h => List.eq_nil_of_length_eq_zero (by rw [h.1]; rfl)
 | p :: l, inner, h => by
  have h0 := hR _ _ (h.2 0 p rfl)
  rw [Nat.zero_mul, List.drop_zero] at h0
  have h1 := falls_cells hR l (inner.drop 3) ⟨by rw [List.length_drop, h.1]; simp; omega, fun j q hj => by
   have := h.2 (j + 1) q (by simpa using hj)
   rw [List.drop_drop]
   rwa [show 3 + j * 3 = (j + 1) * 3 by omega]⟩
  rw [← List.take_append_drop 3 inner, h0, h1]
  rfl
theorem R_falls {w : World} {base : Nat} {ok : Nat → Prop} {v : Value} {l : List Fal} : kF.R 134 w base ok v l ↔ (∀ k, v.ownBlock = some k → ok k) ∧ w.ownsRow base 134 3 v l.length (pfs l) := by
 constructor
 ·rintro ⟨h0, inner, hown, hr⟩
  refine ⟨h0, ?_⟩
  rw [← falls_cells (R := kF.M w base (fun k => ok k ∧ some k ≠ v.ownBlock)) (fun x cs h => kF_open (kF.K_of_M h)) l inner hr]
  exact hown
 ·rintro ⟨h0, hown⟩
  exact ⟨h0, _, hown, reps_falls (fun x => kF_mkM _ _ _ x) l⟩
theorem dfalls_calls {w : World} {ok : Nat → Prop} {v : Value} {l : List Fal} (h : kF.R 134 w 0 ok v l) (i : Nat) (hi : i < l.length) :
  Calls Tryz.prog 84 #[v, .int .i64 (i : Int), .int .i64 ((i : Int) + 1)] w fun e w' => ∃ v', e = .returned v' ∧ kF.R 134 w' 0 ok v' (l.eraseIdx i) ∧ w.grownBy w' v.ownBlock := by
 obtain ⟨h0, hown⟩ := R_falls.1 h
 obtain ⟨b, c, rfl, hb, hlt⟩ := hown.form (by omega)
 refine (dfalls_own 0 b c l i w hown hi).mono ?_
 rintro e w' ⟨rfl, hO, hG⟩
 refine ⟨_, rfl, R_falls.2 ⟨fun k hk => h0 k (by simpa [Value.ownBlock] using hk), hO⟩, by simpa [Value.ownBlock] using hG⟩
theorem change_fall {w : World} {d : Nat} {ok : Nat → Prop} {st : DK} (h : IsD w d ok st) (hnew : ∀ k, w.heap.size ≤ k → ok k) (c : Chg) (hok : OkC st.now c) (hl : (st.wait.length + 1) * 64 ≤ 140737488355328) (hct : 0 ≤ st.count ∧ st.count < 9000000000000000000) (i : Nat) (hi0 : i < st.falls.length) (hit : (st.falls.getD i zF).at_ = st.count) (hfa : ∀ j, j < i → (st.falls.getD j zF).at_ ≠ st.count) (hval : Valid st.sure (st.wait ++ [c])) (hfl : st.falls.length * 24 ≤ 140737488355328) :
  Calls Tryz.prog 67 #[.pointer (some ⟨d, 0, none⟩), .agg #[.int .i64 c.kind, .string c.name, .string c.dest, .string c.s, .int .i64 c.long]] w fun e w' => e = .returned (.int .i64 21) ∧ IsD w' d ok (failK { st with wait := st.wait ++ [c], falls := st.falls.eraseIdx i } (st.falls.getD i zF).keep (st.falls.getD i zF).torn) ∧ Kp ok w w' := by
 have hu := Tryz.underlying62
 have huc := Tryz.underlying119
 have huf := Tryz.underlying134
 obtain ⟨bs, bn, vw, vf, h⟩ := h.bound
 obtain ⟨A, cf, rfl, hlc, hC⟩ := Kd.R_reads h.falls
 have HM := Aside0.mk (Kd.C_max hC)
 have HC := Aside0.mk hC
 have HVW : Aside0 (∀ k, vw.ownBlock = some k → ok k ∧ k < w.heap.size) := ⟨h.wait.1⟩
 have H := Aside0.mk (h.alloc (.cells #[.int .i64 c.kind, .string c.name, .string c.dest, .string c.s, .int .i64 c.long] 119 (0, 0)))
 have HN := Aside0.mk hnew
 have HOK := Aside0.mk hok
 have HL := Aside0.mk hl
 have HCT := Aside0.mk hct
 have HFA := Aside0.mk hfa
 have HI0 := Aside0.mk hi0
 have HIT := Aside0.mk hit
 have HVAL := Aside0.mk hval
 have HFL := Aside0.mk hfl
 have HLT := Aside0.mk h.lt
 have HBX := Aside0.mk (heap_alloc_new w (.cells #[.int .i64 c.kind, .string c.name, .string c.dest, .string c.s, .int .i64 c.long] 119 (0, 0)))
 have HKA := Aside0.mk ((Kp.refl ok w).alloc (.cells #[.int .i64 c.kind, .string c.name, .string c.dest, .string c.s, .int .i64 c.long] 119 (0, 0)))
 have c5 := H.out.c5
 obtain ⟨n, hn⟩ : ∃ n, n = st.falls.length := ⟨_, rfl⟩
 have hng : n ≤ 9223372036854775807 := by have := HM.out; omega
 have HNN := Aside0.mk hn
 clear h hC hnew hok hl hct hfa hi0 hit hval hfl
 go_enter Tryz.func67, Tryz.ntmps67
 go_wp2_with (fail)
 rw [← hn]
 clear hn
 go_loopg [5, 6, 12] (n + 1) (fun kq v5 v6 v12 w' => ∃ (j : Nat), v12 = .int .i64 (j : Int) ∧ Aside0 (j + kq = n + 1 ∧ j ≤ i) ∧ Aside0 (IsDL w' d (fun k => ok k ∧ k < w.heap.size) st bs bn vw (.slice A st.falls.length cf)) ∧ Aside0 (w'.heap[w.heap.size]? = some (.cells #[.int .i64 c.kind, .string c.name, .string c.dest, .string c.s, .int .i64 c.long] 119 (0, 0))) ∧ Aside0 (Kp ok w w'))
 case atStart => exact ⟨0, rfl, ⟨by omega, by omega⟩, H, HBX, HKA⟩
 case round =>
  obtain ⟨j, rfl, HJ, HI, HB, HK⟩ := hrel
  clear c5
  cases gk with
  | zero => have := HJ.out; have := HI0.out; have := HNN.out; omega
  | succ k1 =>
   have hji : j < n := by have := HJ.out; have := HI0.out; have := HNN.out; omega
   have hlt : ((j : Int) < (n : Int)) = True := eq_true (by omega)
   have hi := HI.out
   obtain ⟨A', c', hA', _, hC'⟩ := Kd.R_reads hi.falls
   injection hA' with hA1 hA2 hA3
   subst hA1
   have HCF := Aside0.mk hC'
   obtain ⟨ad, e, h0, h1, h2⟩ := at_F hC' j (by have := HNN.out; omega)
   subst e
   obtain ⟨x, hxx⟩ : ∃ x, x = st.falls.getD j zF := ⟨_, rfl⟩
   rw [← hxx] at h0 h1 h2
   have HXX := Aside0.mk hxx
   clear hi hC' hA2 hA3
   by_cases hj : j < i
   ·have hne : (x.at_ == st.count) = false := beq_eq_false_iff_ne.mpr (by rw [hxx]; exact HFA.out j hj)
    clear hxx
    go_wp2_with (fail)
    have H5 := Aside0.mk (HI.out.alloc (.cells #[.int .i64 x.at_, .int .i64 x.keep, .int .i64 x.torn] 134 (0, 0)))
    have HB5 : Aside0 ((wr.alloc (.cells #[.int .i64 x.at_, .int .i64 x.keep, .int .i64 x.torn] 134 (0, 0))).heap[w.heap.size]? = some (.cells #[.int .i64 c.kind, .string c.name, .string c.dest, .string c.s, .int .i64 c.long] 119 (0, 0))) := ⟨(Below.heap_alloc _ _ _ (lt_of_some HB.out)).trans HB.out⟩
    have K5 := Aside0.mk (HK.out.alloc (.cells #[.int .i64 x.at_, .int .i64 x.keep, .int .i64 x.torn] 134 (0, 0)))
    have k3 := H5.out.c3
    have b0 := (blk_cell (heap_alloc_new wr (.cells #[.int .i64 x.at_, .int .i64 x.keep, .int .i64 x.torn] 134 (0, 0))) 0).trans rfl
    clear h0 h1 h2
    generalize wr.alloc (.cells #[.int .i64 x.at_, .int .i64 x.keep, .int .i64 x.torn] 134 (0, 0)) = w5 at H5 HB5 K5 k3 b0 ⊢
    go_region_held3 (fun w' => w'.cell? ⟨d, 3, none⟩ = some (.int .i64 st.count) ∧ w'.cell? ⟨wr.heap.size, 0, none⟩ = some (.int .i64 x.at_)) (go_keep)
     (fail)
    go_wp2
    go_roundg k1
    case measure => have := HJ.out; omega
    case rel => exact ⟨j + 1, rfl, ⟨by have := HJ.out; omega, by omega⟩, ⟨H5.out.drew⟩, ⟨HB5.out⟩, ⟨K5.out.drew⟩⟩
   ·obtain rfl : j = i := by have := HJ.out; omega
    have hne : (x.at_ == st.count) = true := beq_iff_eq.mpr (by rw [hxx]; exact HIT.out)
    clear hxx
    go_wp2_with (fail)
    have H5 := Aside0.mk ((HI.out.mono (fun _ hk => hk.1)).alloc (.cells #[.int .i64 x.at_, .int .i64 x.keep, .int .i64 x.torn] 134 (0, 0)))
    have HB5 : Aside0 ((wr.alloc (.cells #[.int .i64 x.at_, .int .i64 x.keep, .int .i64 x.torn] 134 (0, 0))).heap[w.heap.size]? = some (.cells #[.int .i64 c.kind, .string c.name, .string c.dest, .string c.s, .int .i64 c.long] 119 (0, 0))) := ⟨(Below.heap_alloc _ _ _ (lt_of_some HB.out)).trans HB.out⟩
    have HT5 := Aside0.mk (heap_alloc_new wr (.cells #[.int .i64 x.at_, .int .i64 x.keep, .int .i64 x.torn] 134 (0, 0)))
    have K5 := Aside0.mk (HK.out.alloc (.cells #[.int .i64 x.at_, .int .i64 x.keep, .int .i64 x.torn] 134 (0, 0)))
    have C5 : Aside0 (Kd.C kF (wr.alloc (.cells #[.int .i64 x.at_, .int .i64 x.keep, .int .i64 x.torn] 134 (0, 0))) (some ad) st.falls.length st.falls) := ⟨Kd.C_below HCF.out (below_alloc (Below.refl _ _) _)⟩
    have k3 := H5.out.c3
    have b0 := (blk_cell HT5.out 0).trans rfl
    clear h0 h1 h2
    have LT5 : Aside0 (wr.heap.size < (wr.alloc (.cells #[.int .i64 x.at_, .int .i64 x.keep, .int .i64 x.torn] 134 (0, 0))).heap.size ∧ w.heap.size < wr.heap.size) := ⟨lt_of_some HT5.out, lt_of_some HB.out⟩
    generalize wr.alloc (.cells #[.int .i64 x.at_, .int .i64 x.keep, .int .i64 x.torn] 134 (0, 0)) = w5 at H5 HB5 HT5 K5 C5 LT5 k3 b0 ⊢
    generalize wr.heap.size = gt at HT5 LT5 b0 ⊢
    go_region_held3 (fun w' => w'.cell? ⟨d, 3, none⟩ = some (.int .i64 st.count) ∧ w'.cell? ⟨gt, 0, none⟩ = some (.int .i64 x.at_)) (go_keep)
     (fail)
    have k5 := H5.out.drew.c5
    clear k3 b0
    go_wp2_with (fail)
    refine (cfalls_calls _ _ st.falls _ (Kd.C_below C5.out (pw_below_drewN (Below.refl _ _) 1)) HFL.out).mono ?_
    rintro e w8 ⟨v8, rfl, hR, hb⟩
    have R8 := Aside0.mk (Kd.R_lower (Kd.R_mono (Kd.R_bound hR) (ok' := fun k => w5.drew.heap.size ≤ k) (fun k hk => hk.2.1)) (Nat.zero_le _))
    have B8 := Aside0.mk hb
    clear hR hb k5 C5
    go_wp2_with (fail)
    refine (dfalls_calls R8.out j HI0.out).mono ?_
    rintro e w9 ⟨v9, rfl, hR, hG⟩
    have B9 := Aside0.mk (B8.out.grown hG B8.out.size (fun k hk => R8.out.1 k hk))
    have H9 := Aside0.mk (H5.out.drew.below B9.out)
    have HB9 : Aside0 (w9.heap[w.heap.size]? = some (.cells #[.int .i64 c.kind, .string c.name, .string c.dest, .string c.s, .int .i64 c.long] 119 (0, 0))) := ⟨(B9.out.block _ (lt_of_some (show w5.drew.heap[w.heap.size]? = _ from HB5.out))).trans HB5.out⟩
    have HT9 : Aside0 (w9.heap[gt]? = some (.cells #[.int .i64 x.at_, .int .i64 x.keep, .int .i64 x.torn] 134 (0, 0))) := ⟨(B9.out.block _ (lt_of_some (show w5.drew.heap[gt]? = _ from HT5.out))).trans HT5.out⟩
    have K9 := Aside0.mk (K5.out.drew.trans (Kp.of_below B9.out))
    have R9 := Aside0.mk (Kd.R_mono hR (ok' := ok) (fun k hk => HN.out k (Nat.le_trans K5.out.size hk)))
    clear hR hG R8 B8 B9 H5 HB5 HT5 K5
    obtain ⟨A9, c9, rfl, _⟩ := Kd.R_slice R9.out
    have z5 := H9.out.fz 5
    have k5 := H9.out.c5
    go_wp2_with (fail)
    have H6 := Aside0.mk (H9.out.set (st' := { st with falls := st.falls.eraseIdx j }) 5 (.slice A9 (st.falls.eraseIdx j).length c9) (blk_put (cs := #[.map (some bs), .map (some bn), vw, .int .i64 st.count, .bool st.down, .slice (some ad) st.falls.length cf, .int .i64 st.room]) H9.out.blk 5 _ rfl) H9.out.sure H9.out.now H9.out.ne H9.out.oks H9.out.okn H9.out.wait R9.out)
    have HB6 : Aside0 ((w9.setCell ⟨d, 5, none⟩ (.slice A9 (st.falls.eraseIdx j).length c9)).heap[w.heap.size]? = some (.cells #[.int .i64 c.kind, .string c.name, .string c.dest, .string c.s, .int .i64 c.long] 119 (0, 0))) := ⟨(Below.heap_setCell w9 ⟨d, 5, none⟩ _ _ (by have := HLT.out; simp only; omega)).trans HB9.out⟩
    have HT6 : Aside0 ((w9.setCell ⟨d, 5, none⟩ (.slice A9 (st.falls.eraseIdx j).length c9)).heap[gt]? = some (.cells #[.int .i64 x.at_, .int .i64 x.keep, .int .i64 x.torn] 134 (0, 0))) := ⟨(Below.heap_setCell w9 ⟨d, 5, none⟩ _ _ (by have := HLT.out; have := LT5.out; simp only; omega)).trans HT9.out⟩
    have K6 : Aside0 (Kp ok w (w9.setCell ⟨d, 5, none⟩ (.slice A9 (st.falls.eraseIdx j).length c9))) := ⟨K9.out.set H9.out.okd _⟩
    clear z5 k5 H9 HB9 HT9 K9 R9
    generalize w9.setCell ⟨d, 5, none⟩ (.slice A9 (st.falls.eraseIdx j).length c9) = w7 at H6 HB6 HT6 K6 ⊢
    have k2 := H6.out.drew.c2
    have b0 := (blk_cell HB6.out 0).trans rfl
    have b1 := (blk_cell HB6.out 1).trans rfl
    have b2 := (blk_cell HB6.out 2).trans rfl
    have b3 := (blk_cell HB6.out 3).trans rfl
    have b4 := (blk_cell HB6.out 4).trans rfl
    refine start_ (n := 11) (S := fun w' => w'.cell? ⟨d, 2, none⟩ = some vw ∧ w'.cell? ⟨w.heap.size, 0, none⟩ = some (.int .i64 c.kind) ∧ w'.cell? ⟨w.heap.size, 1, none⟩ = some (.string c.name) ∧ w'.cell? ⟨w.heap.size, 2, none⟩ = some (.string c.dest) ∧ w'.cell? ⟨w.heap.size, 3, none⟩ = some (.string c.s) ∧ w'.cell? ⟨w.heap.size, 4, none⟩ = some (.int .i64 c.long)) (ds := [10]) #[false, false, false, false, false, false, false, false, false, false, false] (by kernel_rfl) rfl rfl ⟨k2, b0, b1, b2, b3, b4⟩ (fun hHeld => ?_)
    refine pz 0 36 ?_
    refine pz 1 37 ?_
    refine pz 2 38 ?_
    refine pz 3 39 ?_
    refine tz 4 40 ?_
    refine tz 5 41 ?_
    refine one_ (i := 6) (N := some 42) #[true, true, true, true, true, true, true, false, false, false, false] rfl rfl (by kernel_rfl) (by decide) (fun K hK => ?_)
    refine event_step (v := .slice (some ⟨w7.drew.heap.size, 0, none⟩) 1 1) (w1 := (w7.drew.alloc (.cells #[.int .i64 c.kind, .string c.name, .string c.dest, .string c.s, .int .i64 c.long] 119 (0, 0)))) (by rfl) (by first | (go_simp; done) | (go_simp; rfl)) ?_
    have q1 := Aside0.mk ((H6.out.drew).alloc (.cells #[.int .i64 c.kind, .string c.name, .string c.dest, .string c.s, .int .i64 c.long] 119 (0, 0)))
    have q2 : Aside0 ((w7.drew.alloc (.cells #[.int .i64 c.kind, .string c.name, .string c.dest, .string c.s, .int .i64 c.long] 119 (0, 0))).heap[w.heap.size]? = some (.cells #[.int .i64 c.kind, .string c.name, .string c.dest, .string c.s, .int .i64 c.long] 119 (0, 0))) := ⟨(Below.heap_alloc w7.drew _ _ (lt_of_some (show w7.drew.heap[w.heap.size]? = _ from HB6.out))).trans HB6.out⟩
    refine hK.out _ _ ⟨q1.out.c2, (blk_cell q2.out 0).trans rfl, (blk_cell q2.out 1).trans rfl, (blk_cell q2.out 2).trans rfl, (blk_cell q2.out 3).trans rfl, (blk_cell q2.out 4).trans rfl⟩ (fun hHeld => ?_)
    clear hK K
    refine nz 42 ?_
    refine one_ (i := 7) (N := some 43) #[true, true, true, true, true, true, true, true, false, false, false] rfl rfl (by kernel_rfl) (by decide) (fun K hK => ?_)
    refine Kd.R_append_step kC (w0 := w7.drew) 0 (by rfl) _ _ 59 119 (.agg #[(.int .i64 0), (.string ⟨#[]⟩), (.string ⟨#[]⟩), (.string ⟨#[]⟩), (.int .i64 0)]) 64 (by rfl) Tryz.underlying59 infoC rfl (by decide) (by decide) vw st.wait c [.int .i64 c.kind, .string c.name, .string c.dest, .string c.s, .int .i64 c.long] (fun k => ok k) (fun _ => False) (by rfl) (by rfl) (kC_mkM _ _ _ c) (fun _ hk => hk.elim) (fun k hk => HN.out k (Nat.le_trans K6.out.size hk)) H6.out.drew.wait (Below.refl _ _) (Nat.zero_le _) HL.out ?_
    intro v1 w1 hR hB hG hat
    have q3 := Aside0.mk hR
    have q4 := Aside0.mk hG
    clear hR hB hG hat
    have q5 : Aside0 (w1.heap[d]? = w7.drew.heap[d]?) := ⟨q4.out.block d H6.out.drew.lt (fun e => ned_wait H6.out.drew e.symm)⟩
    have q6 : Aside0 (w1.heap[w.heap.size]? = some (.cells #[.int .i64 c.kind, .string c.name, .string c.dest, .string c.s, .int .i64 c.long] 119 (0, 0))) := ⟨(q4.out.block _ (lt_of_some HB6.out) (fun e => Nat.lt_irrefl _ (HVW.out _ e.symm).2)).trans HB6.out⟩
    have q7 : Aside0 (w1.cell? ⟨d, 2, none⟩ = some vw) := ⟨(blk_cell (q5.out.trans H6.out.drew.blk) 2).trans rfl⟩
    have q8 : Aside0 (w1.frozen? ⟨d, 2, none⟩ = false) := ⟨blk_frozen (q5.out.trans H6.out.drew.blk) 2⟩
    refine hK.out _ _ ⟨q7.out, (blk_cell q6.out 0).trans rfl, (blk_cell q6.out 1).trans rfl, (blk_cell q6.out 2).trans rfl, (blk_cell q6.out 3).trans rfl, (blk_cell q6.out 4).trans rfl⟩ (fun hHeld => ?_)
    clear hK K
    refine nz 43 ?_
    refine pz 8 44 ?_
    refine pz 9 45 ?_
    refine last_ (i := 10) (N := none) #[true, true, true, true, true, true, true, true, true, true, true] rfl rfl (by kernel_rfl) (by decide) (fun K hK => ?_)
    have hcl := q7.out
    have hfr := q8.out
    obtain ⟨A1, c1, rfl, _⟩ := Kd.R_slice q3.out
    refine skip_ (w1 := ?_) (by rfl) rfl ?_ ?_
    rotate_left
    ·go_simp
     rfl
    refine hK.out _ _ ?_
    clear hK K
    refine done_ (by kernel_rfl) ?_
    clear hfr hcl hHeld k2 b0 b1 b2 b3 b4
   
    have hlen : (st.wait ++ [c]).length = st.wait.length + 1 := by simp
    rw [hlen] at q3
    clear hlen
    have H7 := Aside0.mk (H6.out.drew.append q4.out q3.out)
    have HT7 : Aside0 ((w1.setCell ⟨d, 2, none⟩ (.slice A1 (st.wait.length + 1) c1)).heap[gt]? = some (.cells #[.int .i64 x.at_, .int .i64 x.keep, .int .i64 x.torn] 134 (0, 0))) := ⟨(Below.heap_setCell w1 ⟨d, 2, none⟩ _ _ (by have := HLT.out; have := LT5.out; simp only; omega)).trans ((q4.out.block _ (lt_of_some (show w7.drew.heap[gt]? = _ from HT6.out)) (fun e => by have := (HVW.out _ e.symm).2; have := LT5.out; omega)).trans HT6.out)⟩
    have K7 : Aside0 (Kp ok w (w1.setCell ⟨d, 2, none⟩ (.slice A1 (st.wait.length + 1) c1))) := ⟨(K6.out.drew.trans (Kp.of_grown q4.out (fun k e => (HVW.out k e).1))).set H6.out.okd _⟩
    clear q1 q2 q3 q4 q5 q6 q7 q8
    generalize w1.setCell ⟨d, 2, none⟩ (.slice A1 (st.wait.length + 1) c1) = w10 at H7 HT7 K7 ⊢
    have e1 := (blk_cell HT7.out 1).trans rfl
    have e2 := (blk_cell HT7.out 2).trans rfl
    go_wp2_with (fail)
    refine (fail_calls ⟨_, _, _, _, H7.out⟩ (fun k hk => HN.out k (Nat.le_trans K7.out.size hk)) HVAL.out x.keep x.torn).mono ?_
    rintro e w11 ⟨rfl, hI, hK⟩
    have I11 := Aside0.mk hI
    have K11 := Aside0.mk hK
    clear hI hK e1 e2
    go_wp2
    go_ret
    refine ⟨rfl, ?_, K7.out.trans K11.out⟩
    rw [← HXX.out]
    exact I11.out
/-! change -/
theorem hit_some {st : DK} {i : Nat} (h : hitI st = some i) : i < st.falls.length ∧ (st.falls.getD i zF).at_ = st.count ∧ ∀ j, j < i → (st.falls.getD j zF).at_ ≠ st.count := by
 obtain ⟨hi, h1, h2⟩ := List.findIdx?_eq_some_iff_getElem.1 h
 refine ⟨hi, ?_, fun j hj => ?_⟩
 ·rw [List.getD_eq_getElem?_getD, List.getElem?_eq_getElem hi]
  exact beq_iff_eq.1 h1
 ·have := h2 j hj
  rw [List.getD_eq_getElem?_getD, List.getElem?_eq_getElem (by omega)]
  intro e
  exact this (beq_iff_eq.2 e)
theorem change_calls {w : World} {d : Nat} {ok : Nat → Prop} {st : DK} (h : IsD w d ok st) (hnew : ∀ k, w.heap.size ≤ k → ok k) (c : Chg) (hc : CanC st c) :
  Calls Tryz.prog 67 #[.pointer (some ⟨d, 0, none⟩), .agg #[.int .i64 c.kind, .string c.name, .string c.dest, .string c.s, .int .i64 c.long]] w fun e w' => e = .returned (.int .i64 (changeK st c).2) ∧ IsD w' d ok (changeK st c).1 ∧ Kp ok w w' := by
 cases hh : hitI st with
 | none => exact change_calls0 h hnew c hc hh
 | some i =>
  obtain ⟨h1, h2, h3⟩ := hit_some hh
  unfold changeK
  rw [hh]
  exact change_fall h hnew c hc.ok hc.len hc.cnt i h1 h2 h3 hc.valid hc.falls
/-! Append, Write, Move, Remove, Cut -/
def roomE (st : DK) (was n : Nat) : Bool := decide (0 ≤ st.room ∧ was < n ∧ st.room < (totF st.now : Int) - was + n)
def appendK (st : DK) (nm s : ByteArray) : DK × Int :=
 if askE st.down [nm] = 0 then if roomE st 0 s.size = true then (st, 22) else changeK st ⟨0, nm, ⟨#[]⟩, s, 0⟩ else (st, askE st.down [nm])
theorem mod_in (n : Int) (h : -9223372036854775808 ≤ n ∧ n ≤ 9223372036854775807) : (n + 9223372036854775808) % 18446744073709551616 - 9223372036854775808 = n := by omega
theorem askE_ok {dn : Bool} {l : List ByteArray} (h : askE dn l = 0) : dn = false ∧ l.all nameS = true := by
 unfold askE at h
 cases dn with
 | true => exact absurd h (by rw [if_pos rfl]; decide)
 | false =>
  rw [if_neg (by simp)] at h
  by_cases h1 : l.all nameS = true
  ·exact ⟨rfl, h1⟩
  ·rw [if_neg h1] at h; exact absurd h (by decide)
theorem askE_one {dn : Bool} {nm : ByteArray} (h : askE dn [nm] = 0) : dn = false ∧ nameS nm = true := by
 obtain ⟨h1, h2⟩ := askE_ok h
 rw [List.all_cons, Bool.and_eq_true] at h2
 exact ⟨h1, h2.1⟩
section
variable {w : World} {d : Nat} {ok : Nat → Prop} {st : DK}
end
end Go.Proofs.YtpgbkeaaklglkaaGreatDoor.Q
namespace Go.Proofs.YtpgbkeaaklglkaaGreatDoor.Q
open Go.Maps Go.WideShapes Go.WideMaps Go.RowKit Go.Proofs.YtpgbkeaaklglkaaGreatDoorW.PrintWords Go.Proofs.YtpgbkeaaklglkaaGreatDoorW.PrintLast Go.Proofs.YtpgbkeaaklglkaaGreatDoorW.PrintMore
set_option linter.unusedVariables false
set_option linter.unusedSimpArgs false
set_option maxHeartbeats 10000000
set_option maxRecDepth 100000
/-! the calls on a nil disk -/
/-! Write, Move, Remove, Cut -/
theorem askE_two {dn : Bool} {a b : ByteArray} (h : askE dn [a, b] = 0) : dn = false ∧ nameS a = true ∧ nameS b = true := by
 obtain ⟨h1, h2⟩ := askE_ok h
 rw [List.all_cons, Bool.and_eq_true] at h2
 refine ⟨h1, h2.1, ?_⟩
 have h3 := h2.2
 rw [List.all_cons, Bool.and_eq_true] at h3
 exact h3.1
def writeK (st : DK) (nm s : ByteArray) : DK × Int :=
 if askE st.down [nm] = 0 then if roomE st (getF st.now nm).size s.size = true then (st, 22) else changeK st ⟨1, nm, ⟨#[]⟩, s, 0⟩ else (st, askE st.down [nm])
def moveK (st : DK) (a b : ByteArray) : DK × Int :=
 if askE st.down [a, b] = 0 then if hasF st.now a = true then if a = b then (st, 1) else changeK st ⟨2, a, b, ⟨#[]⟩, 0⟩ else (st, 4) else (st, askE st.down [a, b])
def removeK (st : DK) (a : ByteArray) : DK × Int :=
 if askE st.down [a] = 0 then if hasF st.now a = true then changeK st ⟨3, a, ⟨#[]⟩, ⟨#[]⟩, 0⟩ else (st, 4) else (st, askE st.down [a])
def cutK (st : DK) (a : ByteArray) (n : Int) : DK × Int :=
 if askE st.down [a] = 0 then if hasF st.now a = true then if 0 ≤ n ∧ n ≤ ((getF st.now a).size : Int) then changeK st ⟨4, a, ⟨#[]⟩, ⟨#[]⟩, n⟩ else (st, 1) else (st, 4) else (st, askE st.down [a])
section
variable {w : World} {d : Nat} {ok : Nat → Prop} {st : DK}
theorem remove_calls (h : IsD w d ok st) (hnew : ∀ k, w.heap.size ≤ k → ok k) (nm : ByteArray) (hs : nm.size ≤ 9223372036854775807) (hc : st.down = false → nameS nm = true → hasF st.now nm = true → CanC st ⟨3, nm, ⟨#[]⟩, ⟨#[]⟩, 0⟩) :
  Calls Tryz.prog 40 #[.pointer (some ⟨d, 0, none⟩), .string nm] w fun e w' => e = .returned (.int .i64 (removeK st nm).2) ∧ IsD w' d ok (removeK st nm).1 ∧ Kp ok w w' := by
 have hu := Tryz.underlying62
 have huc := Tryz.underlying119
 obtain ⟨bs, bn, vw, vf, h⟩ := h
 have H := Aside0.mk h
 have HN := Aside0.mk hnew
 have HC := Aside0.mk hc
 have HS := Aside0.mk hs
 clear h hnew hc hs
 go_enter Tryz.func40, Tryz.ntmps40
 go_wp2_with (fail)
 refine (ask_calls d st.down _ 1 [nm] _ ((World.cell?_of_block (Below.heap_alloc w _ d H.out.lt)).trans H.out.c4) (str1 w nm) (fun s hs => by rw [List.mem_singleton] at hs; rw [hs]; exact HS.out)).mono ?_
 rintro e w1 ⟨rfl, n, rfl⟩
 have H1 := Aside0.mk ((H.out.alloc (.cells #[.string nm] 9 (0, 0))).drewN n)
 have B1 : Aside0 (Below w.heap.size w ((w.alloc (.cells #[.string nm] 9 (0, 0))).drewN n)) := ⟨pw_below_drewN (below_alloc (Below.refl _ _) _) n⟩
 generalize (w.alloc (.cells #[.string nm] 9 (0, 0))).drewN n = w1 at H1 B1 ⊢
 by_cases h0 : askE st.down [nm] = 0
 ·rw [h0]
  have HE : Aside0 (removeK st nm = if hasF st.now nm = true then changeK st ⟨3, nm, ⟨#[]⟩, ⟨#[]⟩, 0⟩ else (st, 4)) := ⟨if_pos h0⟩
  have h0c := Aside0.mk h0
  clear h0
  have hL := lookok_run H1.out.now HS.out
  have hc1 := H1.out.c1
  cases hh : hasF st.now nm with
  | false =>
   rw [hh] at hL
   have HH := Aside0.mk (Bool.not_eq_true _ ▸ hh : ¬ hasF st.now nm = true)
   clear hh
   go_wp2
   go_ret
   exact ⟨by rw [HE.out, if_neg HH.out]; rfl, by rw [HE.out, if_neg HH.out]; exact ⟨_, _, _, _, H1.out⟩, Kp.of_below B1.out⟩
  | true =>
   rw [hh] at hL
   have HH := Aside0.mk hh
   clear hh
   go_wp2_with (fail)
   refine (change_calls (st := st) ⟨_, _, _, _, H1.out⟩ (fun k hk => HN.out k (Nat.le_trans (B1.out).size hk)) ⟨3, nm, ⟨#[]⟩, ⟨#[]⟩, 0⟩ (HC.out (askE_one h0c.out).1 (askE_one h0c.out).2 HH.out)).mono ?_
   rintro e w9 ⟨rfl, hI, hK⟩
   go_wp2
   go_ret
   exact ⟨by rw [HE.out, if_pos HH.out]; rfl, by rw [HE.out, if_pos HH.out]; exact hI, (Kp.of_below (B1.out)).trans hK⟩
 ·have HE : Aside0 (removeK st nm = (st, askE st.down [nm])) := ⟨if_neg h0⟩
  have h1 : (askE st.down [nm] != 0) = true := bne_iff_ne.mpr h0
  clear h0
  go_wp2
  go_ret
  exact ⟨by rw [HE.out]; rfl, by rw [HE.out]; exact ⟨_, _, _, _, H1.out⟩, Kp.of_below B1.out⟩
theorem move_calls (h : IsD w d ok st) (hnew : ∀ k, w.heap.size ≤ k → ok k) (nm nb : ByteArray) (hs : nm.size ≤ 9223372036854775807) (hs2 : nb.size ≤ 9223372036854775807) (hc : st.down = false → nameS nm = true → nameS nb = true → hasF st.now nm = true → CanC st ⟨2, nm, nb, ⟨#[]⟩, 0⟩) :
  Calls Tryz.prog 47 #[.pointer (some ⟨d, 0, none⟩), .string nm, .string nb] w fun e w' => e = .returned (.int .i64 (moveK st nm nb).2) ∧ IsD w' d ok (moveK st nm nb).1 ∧ Kp ok w w' := by
 have hu := Tryz.underlying62
 have huc := Tryz.underlying119
 obtain ⟨bs, bn, vw, vf, h⟩ := h
 have H := Aside0.mk h
 have HN := Aside0.mk hnew
 have HC := Aside0.mk hc
 have HS := Aside0.mk hs
 have HS2 := Aside0.mk hs2
 clear h hnew hc hs hs2
 go_enter Tryz.func47, Tryz.ntmps47
 go_wp2_with (fail)
 refine (ask_calls d st.down _ 2 [nm, nb] _ ((World.cell?_of_block (Below.heap_alloc w _ d H.out.lt)).trans H.out.c4) (str2 w nm nb) (fun s hs => by rcases List.mem_cons.1 hs with rfl | hs; exact HS.out; rw [List.mem_singleton] at hs; rw [hs]; exact HS2.out)).mono ?_
 rintro e w1 ⟨rfl, n, rfl⟩
 have H1 := Aside0.mk ((H.out.alloc (.cells #[.string nm, .string nb] 9 (0, 0))).drewN n)
 have B1 : Aside0 (Below w.heap.size w ((w.alloc (.cells #[.string nm, .string nb] 9 (0, 0))).drewN n)) := ⟨pw_below_drewN (below_alloc (Below.refl _ _) _) n⟩
 generalize (w.alloc (.cells #[.string nm, .string nb] 9 (0, 0))).drewN n = w1 at H1 B1 ⊢
 by_cases h0 : askE st.down [nm, nb] = 0
 ·rw [h0]
  have HE : Aside0 (moveK st nm nb = if hasF st.now nm = true then if nm = nb then (st, 1) else changeK st ⟨2, nm, nb, ⟨#[]⟩, 0⟩ else (st, 4)) := ⟨if_pos h0⟩
  have h0c := Aside0.mk h0
  clear h0
  have hL := lookok_run H1.out.now HS.out
  have hc1 := H1.out.c1
  cases hh : hasF st.now nm with
  | false =>
   rw [hh] at hL
   have HH := Aside0.mk (Bool.not_eq_true _ ▸ hh : ¬ hasF st.now nm = true)
   clear hh
   go_wp2
   go_ret
   exact ⟨by rw [HE.out, if_neg HH.out]; rfl, by rw [HE.out, if_neg HH.out]; exact ⟨_, _, _, _, H1.out⟩, Kp.of_below B1.out⟩
  | true =>
   rw [hh] at hL
   have HH := Aside0.mk hh
   clear hh
   by_cases h1 : nm = nb
   ·subst h1
    have g1 : (nm.toList == nm.toList) = true := beq_self_eq_true _
    go_wp2
    go_ret
    exact ⟨by rw [HE.out, if_pos HH.out, if_pos trivial]; rfl, by rw [HE.out, if_pos HH.out, if_pos trivial]; exact ⟨_, _, _, _, H1.out⟩, Kp.of_below B1.out⟩
   ·have g1 : (nm.toList == nb.toList) = false := beq_eq_false_iff_ne.mpr (fun e => h1 (ba_inj (by rw [← ByteArray.toList_eq, ← ByteArray.toList_eq]; exact e)))
    have HR := Aside0.mk h1
    clear h1
    go_wp2_with (fail)
    refine (change_calls (st := st) ⟨_, _, _, _, H1.out⟩ (fun k hk => HN.out k (Nat.le_trans (B1.out).size hk)) ⟨2, nm, nb, ⟨#[]⟩, 0⟩ (HC.out (askE_two h0c.out).1 (askE_two h0c.out).2.1 (askE_two h0c.out).2.2 HH.out)).mono ?_
    rintro e w9 ⟨rfl, hI, hK⟩
    go_wp2
    go_ret
    exact ⟨by rw [HE.out, if_pos HH.out, if_neg HR.out]; rfl, by rw [HE.out, if_pos HH.out, if_neg HR.out]; exact hI, (Kp.of_below (B1.out)).trans hK⟩
 ·have HE : Aside0 (moveK st nm nb = (st, askE st.down [nm, nb])) := ⟨if_neg h0⟩
  have h1 : (askE st.down [nm, nb] != 0) = true := bne_iff_ne.mpr h0
  clear h0
  go_wp2
  go_ret
  exact ⟨by rw [HE.out]; rfl, by rw [HE.out]; exact ⟨_, _, _, _, H1.out⟩, Kp.of_below B1.out⟩
theorem write_calls (h : IsD w d ok st) (hnew : ∀ k, w.heap.size ≤ k → ok k) (nm s : ByteArray) (hs : nm.size ≤ 9223372036854775807) (ht : totF st.now ≤ 4000000000000000000 ∧ s.size ≤ 4000000000000000000) (hc : st.down = false → nameS nm = true → CanC st ⟨1, nm, ⟨#[]⟩, s, 0⟩) :
  Calls Tryz.prog 45 #[.pointer (some ⟨d, 0, none⟩), .string nm, .string s] w fun e w' => e = .returned (.int .i64 (writeK st nm s).2) ∧ IsD w' d ok (writeK st nm s).1 ∧ Kp ok w w' := by
 have hu := Tryz.underlying62
 have huc := Tryz.underlying119
 obtain ⟨bs, bn, vw, vf, h⟩ := h
 have H := Aside0.mk h
 have HN := Aside0.mk hnew
 have HC := Aside0.mk hc
 have HS := Aside0.mk hs
 have HT := Aside0.mk ht
 clear h hnew hc hs ht
 go_enter Tryz.func45, Tryz.ntmps45
 go_wp2_with (fail)
 refine (ask_calls d st.down _ 1 [nm] _ ((World.cell?_of_block (Below.heap_alloc w _ d H.out.lt)).trans H.out.c4) (str1 w nm) (fun s hs => by rw [List.mem_singleton] at hs; rw [hs]; exact HS.out)).mono ?_
 rintro e w1 ⟨rfl, n, rfl⟩
 have H1 := Aside0.mk ((H.out.alloc (.cells #[.string nm] 9 (0, 0))).drewN n)
 have B1 : Aside0 (Below w.heap.size w ((w.alloc (.cells #[.string nm] 9 (0, 0))).drewN n)) := ⟨pw_below_drewN (below_alloc (Below.refl _ _) _) n⟩
 generalize (w.alloc (.cells #[.string nm] 9 (0, 0))).drewN n = w1 at H1 B1 ⊢
 by_cases h0 : askE st.down [nm] = 0
 ·rw [h0]
  have HE : Aside0 (writeK st nm s = if roomE st (getF st.now nm).size s.size = true then (st, 22) else changeK st ⟨1, nm, ⟨#[]⟩, s, 0⟩) := ⟨if_pos h0⟩
  have h0c := Aside0.mk h0
  clear h0
  have hL := look_run H1.out.now HS.out
  have hc1 := H1.out.c1
  have GL := Aside0.mk (getF_le st.now nm)
  go_wp2_with (fail)
  clear hL
  have hc := H1.out.drew.c6
  have hc0 := H1.out.c6
  by_cases hr : 0 ≤ st.room
  ·have hr1 : (st.room ≥ 0) = True := eq_true hr
   by_cases hw : (getF st.now nm).size < s.size
   ·have hw1 : decide (((getF st.now nm).size : Int) < (s.size : Int)) = true := decide_eq_true (by omega)
    have UP := Aside0.mk (used_up (askE_one h0c.out).1)
    have HWB1 : Aside0 (-9223372036854775808 ≤ (totF st.now : Int) - ((getF st.now nm).size : Int) ∧ (totF st.now : Int) - ((getF st.now nm).size : Int) ≤ 9223372036854775807) := ⟨by have := HT.out; have := GL.out; omega⟩
    have HWB2 : Aside0 (-9223372036854775808 ≤ (totF st.now : Int) - ((getF st.now nm).size : Int) + (s.size : Int) ∧ (totF st.now : Int) - ((getF st.now nm).size : Int) + (s.size : Int) ≤ 9223372036854775807) := ⟨by have := HT.out; have := GL.out; omega⟩
    refine start_ (n := 25) (S := fun w' => w'.cell? ⟨d, 6, none⟩ = some (.int .i64 st.room)) (ds := []) #[false, false, false, false, false, false, false, false, false, false, false, false, false, false, false, false, false, false, false, false, false, false, false, false, false] (by kernel_rfl) rfl rfl hc (fun hHeld => ?_)
    refine pz 0 23 ?_
    refine pz 1 24 ?_
    refine pz 2 25 ?_
    refine tz 3 26 ?_
    refine pz 4 27 ?_
    refine pz 5 28 ?_
    refine pz 6 29 ?_
    refine pz 7 30 ?_
    refine pz 8 31 ?_
    refine pz 9 32 ?_
    refine pz 10 33 ?_
    refine pz 11 34 ?_
    refine pz 12 35 ?_
    refine pz 14 37 ?_
    refine pz 16 39 ?_
    refine pz 17 40 ?_
    refine pz 19 42 ?_
    refine pz 20 43 ?_
    refine pz 21 44 ?_
    refine tz 22 45 ?_
    refine one_ (i := 13) (N := some 36) #[true, true, true, true, true, true, true, true, true, true, true, true, true, true, true, false, true, true, false, true, true, true, true, false, false] rfl rfl (by kernel_rfl) (by decide) (fun K hK => ?_)
    refine call_ 69 #[.pointer (some ⟨d, 0, none⟩)] (by rfl) rfl (by first | (go_simp; done) | (go_simp; rfl)) ?_
    refine (used_calls (st := st) (ok := ok) ⟨_, _, _, _, H1.out.drew⟩ (by have := HT.out.1; omega)).mono ?_
    rintro e w2 ⟨rfl, hb⟩
    rw [UP.out]
    have H2 := Aside0.mk (H1.out.drew.below hb)
    have B2 : Aside0 (Below w.heap.size w w2) := ⟨B1.out.drew.trans (hb.mono B1.out.size)⟩
    have hc2 := H2.out.c6
    clear hb
    refine ⟨_, rfl, hK.out _ _ hc2 (fun hHeld => ?_)⟩
    clear hK K hc
    refine nz 36 ?_
    refine pz 15 38 ?_
    refine pz 18 41 ?_
    refine pz 23 46 ?_
    refine pz 24 47 ?_
    refine done_ (by kernel_rfl) ?_
    clear hHeld
    simp only [IntKind.wrap_i64]
    rw [mod_in _ HWB1.out, mod_in _ HWB2.out]
    have HSZ := Aside0.mk hw
    have HRR := Aside0.mk hr
    clear hw hr hw1 hr1
    by_cases hf : st.room < (totF st.now : Int) - ((getF st.now nm).size : Int) + (s.size : Int)
    ·have hf1 : decide (st.room < (totF st.now : Int) - ((getF st.now nm).size : Int) + (s.size : Int)) = true := decide_eq_true hf
     have HR : Aside0 (roomE st (getF st.now nm).size s.size = true) := ⟨by unfold roomE; rw [decide_eq_true_iff]; have := HSZ.out; have := HRR.out; omega⟩
     clear hf
     rw [hf1]
     clear hf1
     go_wp2
     go_ret
     exact ⟨by rw [HE.out, if_pos HR.out]; rfl, by rw [HE.out, if_pos HR.out]; exact ⟨_, _, _, _, H2.out⟩, Kp.of_below B2.out⟩
    ·have hf1 : decide (st.room < (totF st.now : Int) - ((getF st.now nm).size : Int) + (s.size : Int)) = false := decide_eq_false hf
     have HR : Aside0 (¬ roomE st (getF st.now nm).size s.size = true) := ⟨by unfold roomE; rw [decide_eq_true_iff]; omega⟩
     clear hf
     rw [hf1]
     clear hf1
     go_wp2_with (fail)
     refine (change_calls (st := st) ⟨_, _, _, _, H2.out⟩ (fun k hk => HN.out k (Nat.le_trans (B2.out).size hk)) ⟨1, nm, ⟨#[]⟩, s, 0⟩ (HC.out (askE_one h0c.out).1 (askE_one h0c.out).2)).mono ?_
     rintro e w9 ⟨rfl, hI, hK⟩
     go_wp2
     go_ret
     exact ⟨by rw [HE.out, if_neg HR.out]; rfl, by rw [HE.out, if_neg HR.out]; exact hI, (Kp.of_below (B2.out)).trans hK⟩
   ·have hw1 : decide (((getF st.now nm).size : Int) < (s.size : Int)) = false := decide_eq_false (by omega)
    have hw2 : (((getF st.now nm).size : Int) < (s.size : Int)) = False := eq_false (by omega)
    have HR : Aside0 (¬ roomE st (getF st.now nm).size s.size = true) := ⟨by unfold roomE; rw [decide_eq_true_iff]; omega⟩
    clear hw
    go_quiet (fail)
    go_wp2_with (fail)
    refine (change_calls (st := st) ⟨_, _, _, _, H1.out.drewN _⟩ (fun k hk => HN.out k (Nat.le_trans (pw_below_drewN B1.out _).size hk)) ⟨1, nm, ⟨#[]⟩, s, 0⟩ (HC.out (askE_one h0c.out).1 (askE_one h0c.out).2)).mono ?_
    rintro e w9 ⟨rfl, hI, hK⟩
    go_wp2
    go_ret
    exact ⟨by rw [HE.out, if_neg HR.out]; rfl, by rw [HE.out, if_neg HR.out]; exact hI, (Kp.of_below (pw_below_drewN B1.out _)).trans hK⟩
  ·have hr1 : (st.room ≥ 0) = False := eq_false (by omega)
   have hr2 : (0 ≤ st.room) = False := eq_false hr
   have hr3 : decide (0 ≤ st.room) = false := decide_eq_false hr
   have HR : Aside0 (¬ roomE st (getF st.now nm).size s.size = true) := ⟨by unfold roomE; rw [decide_eq_true_iff]; intro e; exact hr e.1⟩
   go_quiet (fail)
   go_wp2_with (fail)
   refine (change_calls (st := st) ⟨_, _, _, _, H1.out.drewN _⟩ (fun k hk => HN.out k (Nat.le_trans (pw_below_drewN B1.out _).size hk)) ⟨1, nm, ⟨#[]⟩, s, 0⟩ (HC.out (askE_one h0c.out).1 (askE_one h0c.out).2)).mono ?_
   rintro e w9 ⟨rfl, hI, hK⟩
   go_wp2
   go_ret
   exact ⟨by rw [HE.out, if_neg HR.out]; rfl, by rw [HE.out, if_neg HR.out]; exact hI, (Kp.of_below (pw_below_drewN B1.out _)).trans hK⟩
 ·have HE : Aside0 (writeK st nm s = (st, askE st.down [nm])) := ⟨if_neg h0⟩
  have h1 : (askE st.down [nm] != 0) = true := bne_iff_ne.mpr h0
  clear h0
  go_wp2
  go_ret
  exact ⟨by rw [HE.out]; rfl, by rw [HE.out]; exact ⟨_, _, _, _, H1.out⟩, Kp.of_below B1.out⟩
end
/-! Names -/
theorem bb_le : ∀ {a b : List UInt8}, bytesBefore a b = true → a ≤ b
 | [], b, _ => List.nil_le b
 | x :: r, [], h => by simp [bytesBefore] at h
 | x :: r, y :: s, h => by
  rw [bytesBefore, Bool.or_eq_true, Bool.and_eq_true, decide_eq_true_iff, beq_iff_eq] at h
  rw [List.cons_le_cons_iff]
  rcases h with h | ⟨h1, h2⟩
  ·exact Or.inl h
  ·exact Or.inr ⟨h1, bb_le h2⟩
def namesF (l : Fs) : List ByteArray := l.map (·.1)
theorem strKeys_dOf (l : Fs) : strKeys (dOf l) = (namesF l).map (fun s => s.data.toList) := by
 unfold dOf namesF
 show (l.map dEnt).map (fun p => strOf p.1) = _
 rw [List.map_map, List.map_map]
 rfl
theorem sorted_names {l : Fs} (h : Rises l) {ss : List (List UInt8)} (hp : ss.Perm (strKeys (dOf l))) : ss.mergeSort (fun x y => decide (x ≤ y)) = (namesF l).map (fun s => s.data.toList) := by
 rw [strKeys_dOf] at hp
 have h1 := mergeSort_of_perm hp
 refine h1.trans (List.mergeSort_of_pairwise ?_)
 rw [List.pairwise_map]
 unfold namesF
 rw [List.pairwise_map]
 exact h.imp (fun hab => decide_eq_true (bb_le hab))
theorem names_cells (l : List ByteArray) : (l.map (fun s => s.data.toList)).map encStr = encs Value.string l := by
 unfold encs
 rw [List.map_map]
 refine List.map_congr_left (fun s _ => ?_)
 simp [encStr]
theorem names_calls {w : World} {d : Nat} {ok : Nat → Prop} {st : DK} (h : IsD w d ok st) (hd : st.down = false) (hr : Rises st.now) (hl : st.now.length * 16 ≤ 140737488355328) :
  Calls Tryz.prog 33 #[.pointer (some ⟨d, 0, none⟩)] w fun e w' => ∃ v, e = .returned v ∧ Kd.string.R 9 w' w.heap.size (fun k => w.heap.size ≤ k) v (namesF st.now) ∧ Below w.heap.size w w' := by
 have hu := Tryz.underlying62
 obtain ⟨bs, bn, vw, vf, h⟩ := h
 have H := Aside0.mk h
 have HR := Aside0.mk hr
 have HL := Aside0.mk hl
 have hc1 := h.c1
 have hc4 : w.cell? ⟨d, 4, none⟩ = some (.bool false) := by rw [h.c4, hd]
 clear h hd hr hl
 go_enter Tryz.func33, Tryz.ntmps33
 go_wp2_with (fail)
 refine (callsIn_wide.1 (lay_maps_Keys (some bn) w)).mono ?_
 rintro e w1 ⟨rfl, rfl⟩
 go_wp2_with (fail)
 refine (callsIn_wide.1 (lay_Sorted_keys bn st.now.length (dOf st.now) _ w H.out.now (by rw [dOf_size]; have := HL.out; simp only [maxLen]; omega) (by rw [dOf_size]; exact HL.out))).mono ?_
 rintro e w2 ⟨v, ss, rfl, hS, hrow, _, hb⟩
 have hso := sorted_names HR.out hS
 have hlen : ss.length = (namesF st.now).length := by rw [hS.length_eq, strKeys_dOf, List.length_map]
 rw [hso, names_cells, hlen] at hrow
 have HB := Aside0.mk hb
 have HW := Aside0.mk hrow
 clear hb hrow hS hso hlen
 go_wp2
 go_ret
 have hsz : w.heap.size ≤ (w.alloc (.cells #[.map (some bn)] 58 (0, 0))).heap.size := (below_alloc (Below.refl w.heap.size w) _).size
 have hrow := ownsRow_base_a HW.out hsz
 exact ⟨_, rfl, Kd.R_of_own hrow (fun k hk => own_base hrow k hk), (below_alloc (Below.refl _ w) _).trans (HB.out.mono hsz)⟩
end Go.Proofs.YtpgbkeaaklglkaaGreatDoor.Q
namespace Go.Proofs.YtpgbkeaaklglkaaGreatDoor.Q
open Go.Maps Go.WideShapes Go.WideMaps Go.RowKit Go.Proofs.YtpgbkeaaklglkaaGreatDoorW.PrintWords Go.Proofs.YtpgbkeaaklglkaaGreatDoorW.PrintLast Go.Proofs.YtpgbkeaaklglkaaGreatDoorW.PrintMore
set_option linter.unusedVariables false
set_option linter.unusedSimpArgs false
set_option maxHeartbeats 10000000
set_option maxRecDepth 100000
theorem changeK_none {st : DK} {c : Chg} (h : hitI st = none) : changeK st c = (addK st c, 0) := by unfold changeK; rw [h]
/-! what changes keep -/
theorem ltN_total {a b : ByteArray} (h : a ≠ b) : ltN a b = true ∨ ltN b a = true := WideAt.bytes_total _ _ (fun e => h (ba_inj e))
theorem insF_rises {x : ByteArray × ByteArray} : ∀ {l : Fs}, Rises l → (∀ p ∈ l, p.1 ≠ x.1) → Rises (insF x l)
 | [], _, _ => List.pairwise_singleton _ _
 | y :: r, h, hn => by
  obtain ⟨h1, h2⟩ := List.pairwise_cons.1 h
  rw [insF]
  split
  ·rename_i hlt
   refine List.pairwise_cons.2 ⟨fun p hp => ?_, h⟩
   rcases List.mem_cons.1 hp with rfl | hp
   ·exact hlt
   ·exact ltN_trans hlt (h1 p hp)
  ·rename_i hlt
   have hyx : ltN y.1 x.1 = true := (ltN_total (hn y List.mem_cons_self)).resolve_right hlt
   refine List.pairwise_cons.2 ⟨fun p hp => ?_, insF_rises h2 (fun p hp => hn p (List.mem_cons_of_mem _ hp))⟩
   rcases mem_insF.1 hp with rfl | hp
   ·exact hyx
   ·exact h1 p hp
theorem mem_delF {l : Fs} {n : ByteArray} {p : ByteArray × ByteArray} : p ∈ delF l n ↔ p ∈ l ∧ p.1 ≠ n := by
 unfold delF
 rw [List.mem_filter, Bool.not_eq_true', ← Bool.not_eq_true, sameN_iff]
theorem mem_putF {l : Fs} {n s : ByteArray} {p : ByteArray × ByteArray} : p ∈ putF l n s ↔ p = (n, s) ∨ (p ∈ l ∧ p.1 ≠ n) := by
 unfold putF
 rw [mem_insF, mem_delF]
theorem delF_rises {l : Fs} (n : ByteArray) (h : Rises l) : Rises (delF l n) := List.Pairwise.filter _ h
theorem putF_rises {l : Fs} (n s : ByteArray) (h : Rises l) : Rises (putF l n s) := insF_rises (delF_rises n h) (fun p hp => (mem_delF.1 hp).2)
theorem doC_rises {l : Fs} (c : Chg) (h : Rises l) : Rises (doC l c) := by
 unfold doC
 repeat' split
 ·exact putF_rises _ _ h
 ·exact putF_rises _ _ h
 ·exact delF_rises _ (putF_rises _ _ h)
 ·exact delF_rises _ h
 ·exact putF_rises _ _ h
def Named (l : Fs) : Prop := ∀ p ∈ l, nameS p.1 = true
theorem putF_named {l : Fs} {n s : ByteArray} (h : Named l) (hn : nameS n = true) : Named (putF l n s) := by
 intro p hp
 rcases mem_putF.1 hp with rfl | ⟨hp, _⟩
 ·exact hn
 ·exact h p hp
theorem delF_named {l : Fs} {n : ByteArray} (h : Named l) : Named (delF l n) := fun p hp => h p (mem_delF.1 hp).1
/-- the names that a change bears -/
structure NmC (c : Chg) : Prop where
 name : nameS c.name = true
 dest : c.kind = 2 → nameS c.dest = true ∧ c.name ≠ c.dest
theorem doC_named {l : Fs} {c : Chg} (h : Named l) (hc : NmC c) : Named (doC l c) := by
 unfold doC
 split
 ·exact putF_named h hc.name
 split
 ·exact putF_named h hc.name
 split
 ·rename_i hk; exact delF_named (putF_named h (hc.dest hk).1)
 split
 ·exact delF_named h
 ·exact putF_named h hc.name
theorem doC_len (l : Fs) (c : Chg) : (doC l c).length ≤ l.length + 1 := by
 unfold doC
 repeat' split
 ·exact putF_len _ _ _
 ·exact putF_len _ _ _
 ·exact Nat.le_trans (delF_len _ _) (putF_len _ _ _)
 ·exact Nat.le_trans (delF_len _ _) (Nat.le_succ _)
 ·exact putF_len _ _ _
theorem delF_insF {x : ByteArray × ByteArray} {n : ByteArray} (h : x.1 ≠ n) : ∀ l : Fs, totF (delF (insF x l) n) = x.2.size + totF (delF l n) := by
 have hx : sameN x.1 n = false := by rw [← Bool.not_eq_true, sameN_iff]; exact h
 intro l
 induction l with
 | nil => simp [insF, delF, totF, hx]
 | cons y r ih =>
  rw [insF]
  split
  ·simp [delF, totF, hx]
  ·cases hy : sameN y.1 n with
   | true =>
    rw [show delF (y :: insF x r) n = delF (insF x r) n by simp [delF, hy], show delF (y :: r) n = delF r n by simp [delF, hy]]
    exact ih
   | false =>
    rw [show delF (y :: insF x r) n = y :: delF (insF x r) n by simp [delF, hy], show delF (y :: r) n = y :: delF r n by simp [delF, hy]]
    unfold totF at ih ⊢
    simp only [List.map_cons, List.sum_cons]
    omega
theorem delF_comm (l : Fs) (a b : ByteArray) : delF (delF l a) b = delF (delF l b) a := by
 unfold delF
 rw [List.filter_filter, List.filter_filter]
 congr 1
 funext p
 exact Bool.and_comm _ _
theorem doC_tot (l : Fs) (c : Chg) (hc : c.kind = 2 → c.name ≠ c.dest) : totF (doC l c) ≤ totF l + c.s.size ∧ (2 ≤ c.kind → totF (doC l c) ≤ totF l) ∧ (c.kind = 1 → totF (doC l c) + (getF l c.name).size ≤ totF l + c.s.size) := by
 have hg := getF_tot l c.name
 unfold doC
 split
 ·have := putF_tot l c.name (getF l c.name ++ c.s)
  rw [ByteArray.size_append] at this
  refine ⟨by omega, fun e => by omega, fun e => by omega⟩
 split
 ·have := putF_tot l c.name c.s
  exact ⟨by omega, fun e => by omega, fun _ => this⟩
 split
 ·rename_i hk
  have h1 : totF (delF (putF l c.dest (getF l c.name)) c.name) ≤ totF l := by
   unfold putF
   rw [delF_insF (x := (c.dest, getF l c.name)) (fun e => hc hk e.symm), delF_comm]
   have := delF_tot (delF l c.name) c.dest
   simp only
   omega
  exact ⟨by omega, fun _ => h1, fun e => by omega⟩
 split
 ·have := delF_tot l c.name
  exact ⟨by omega, fun _ => this, fun e => by omega⟩
 ·have h1 := putF_tot l c.name ((getF l c.name).extract 0 c.long.toNat)
  rw [ByteArray.size_extract] at h1
  exact ⟨by omega, fun _ => by omega, fun e => by omega⟩
/-! a disk that is up, without falls, behind at most i changes -/
abbrev BM : Nat := 140737488351232
structure Good (i : Nat) (st : DK) : Prop where
 now : st.now = st.wait.foldl doC st.sure
 val : Valid st.sure st.wait
 ris : Rises st.now
 named : Named st.now
 tot : totF st.now ≤ i * BM
 len : st.now.length ≤ i
 wl : st.wait.length ≤ i
 cnt : 0 ≤ st.count ∧ st.count ≤ i
 fal : st.falls = []
 up : st.down = false
theorem Good.mono {i j : Nat} {st : DK} (h : Good i st) (hij : i ≤ j) : Good j st :=
 ⟨h.now, h.val, h.ris, h.named, Nat.le_trans h.tot (Nat.mul_le_mul_right _ hij), Nat.le_trans h.len hij, Nat.le_trans h.wl hij, ⟨h.cnt.1, Int.le_trans h.cnt.2 (by omega)⟩, h.fal, h.up⟩
theorem Good.hit {i : Nat} {st : DK} (h : Good i st) : hitI st = none := by
 unfold hitI
 rw [h.fal]
 rfl
theorem Good.add {i : Nat} {st : DK} (h : Good i st) {c : Chg} (hok : OkC st.now c) (hn : NmC c) (hs : c.s.size ≤ BM) : Good (i + 1) (addK st c) := by
 refine ⟨?_, ?_, doC_rises c h.ris, doC_named h.named hn, ?_, ?_, ?_, ?_, h.fal, h.up⟩
 ·show doC st.now c = (st.wait ++ [c]).foldl doC st.sure
  rw [List.foldl_append, ← h.now]
  rfl
 ·exact Valid.snoc h.val (by show OkC (st.wait.foldl doC st.sure) c; rw [← h.now]; exact hok)
 ·have h1 := (doC_tot st.now c (fun e => (hn.dest e).2)).1
  have h2 := h.tot
  show totF (doC st.now c) ≤ _
  rw [Nat.add_mul]
  omega
 ·have h1 := doC_len st.now c
  have h2 := h.len
  show (doC st.now c).length ≤ _
  omega
 ·show (st.wait ++ [c]).length ≤ _
  rw [List.length_append]
  have := h.wl
  simp only [List.length_cons, List.length_nil]
  omega
 ·have := h.cnt
  show 0 ≤ st.count + 1 ∧ st.count + 1 ≤ _
  omega
theorem Good.can {i : Nat} {st : DK} (h : Good i st) (hi : i ≤ 1000) {c : Chg} (hok : OkC st.now c) : CanC st c := by
 refine ⟨hok, ?_, ?_, ?_, Valid.snoc h.val (by rw [← h.now]; exact hok)⟩
 ·have := h.wl; omega
 ·have := h.cnt; omega
 ·rw [h.fal]; decide
theorem Good.okc {i : Nat} {st : DK} (h : Good i st) (hi : i ≤ 1000) {k : Int} {a b s : ByteArray} {n : Int} (hk : 0 ≤ k ∧ k ≤ 4) (ha : a.size ≤ BM) (hb : b.size ≤ BM) (hs : s.size ≤ BM) (hc : k = 4 → 0 ≤ n ∧ n ≤ ((getF st.now a).size : Int)) : OkC st.now ⟨k, a, b, s, n⟩ := by
 have h1 := h.tot
 have h2 := h.len
 have h3 : i * BM ≤ 1000 * BM := Nat.mul_le_mul_right _ hi
 refine ⟨hk, Nat.le_trans ha (by decide), Nat.le_trans hb (by decide), by omega, ?_, hc⟩
 show totF st.now + s.size ≤ _
 simp only [BM] at *
 omega
theorem Good.small {i : Nat} {st : DK} (h : Good i st) (hi : i ≤ 1000) : totF st.now ≤ 4000000000000000000 := by
 have h1 := h.tot
 have h3 : i * BM ≤ 1000 * BM := Nat.mul_le_mul_right _ hi
 simp only [BM] at *
 omega
theorem good_new : Good 0 newK := ⟨rfl, trivial, List.Pairwise.nil, (fun p hp => by cases hp), Nat.le_refl _, Nat.le_refl _, Nat.le_refl _, ⟨Int.le_refl _, Int.le_refl _⟩, rfl, rfl⟩
theorem Good.sync {i : Nat} {st : DK} (h : Good i st) : Good i (syncK st) ∧ syncE st = 0 := by
 obtain ⟨h1, h2⟩ := syncK_up h.up
 refine ⟨?_, h2⟩
 rw [h1]
 exact ⟨rfl, trivial, h.ris, h.named, h.tot, h.len, Nat.zero_le _, h.cnt, h.fal, h.up⟩
theorem Good.room {i : Nat} {st : DK} (h : Good i st) (n : Int) : Good i { st with room := n } := ⟨h.now, h.val, h.ris, h.named, h.tot, h.len, h.wl, h.cnt, h.fal, h.up⟩
def callK (st : DK) (k : Int) (a b s : ByteArray) (n : Int) : DK × Int :=
 if k = 0 then appendK st a s else if k = 1 then writeK st a s else if k = 2 then moveK st a b else if k = 3 then removeK st a else cutK st a n
/-- A call leaves the disk as it was, and tells why; or it makes its change. -/
theorem call_cases {i : Nat} {st : DK} (h : Good i st) (hi : i ≤ 1000) {k : Int} {a b s : ByteArray} {n : Int} (hk : 0 ≤ k ∧ k ≤ 4) (ha : a.size ≤ BM) (hb : b.size ≤ BM) (hs : s.size ≤ BM) :
  (∃ e, e ≠ 0 ∧ callK st k a b s n = (st, e)) ∨ ∃ c : Chg, c.kind = k ∧ c.name = a ∧ (k ≤ 1 → c.s = s) ∧ callK st k a b s n = (addK st c, 0) ∧ OkC st.now c ∧ NmC c ∧ c.s.size ≤ BM ∧ (k = 0 → roomE st 0 s.size = false) ∧ (k = 1 → roomE st (getF st.now a).size s.size = false) := by
 have hz : (⟨#[]⟩ : ByteArray).size ≤ BM := by decide
 have hx : (22 : Int) ≠ 0 := by decide
 unfold callK
 by_cases h0 : k = 0
 ·subst h0
  rw [if_pos rfl]
  unfold appendK
  by_cases h1 : askE st.down [a] = 0
  ·rw [if_pos h1]
   cases h2 : roomE st 0 s.size with
   | true => rw [if_pos rfl]; exact Or.inl ⟨22, by decide, rfl⟩
   | false =>
    rw [if_neg (by simp), changeK_none h.hit]
    exact Or.inr ⟨_, rfl, rfl, fun _ => rfl, rfl, h.okc hi (by decide) ha hz hs (fun e => absurd e (by decide)), ⟨(askE_one h1).2, (fun e => absurd (show (0 : Int) = 2 from e) (by decide))⟩, hs, fun _ => rfl, (fun e => absurd e (by decide))⟩
  ·rw [if_neg h1]; exact Or.inl ⟨_, h1, rfl⟩
 rw [if_neg h0]
 by_cases h0' : k = 1
 ·subst h0'
  rw [if_pos rfl]
  unfold writeK
  by_cases h1 : askE st.down [a] = 0
  ·rw [if_pos h1]
   cases h2 : roomE st (getF st.now a).size s.size with
   | true => rw [if_pos rfl]; exact Or.inl ⟨22, by decide, rfl⟩
   | false =>
    rw [if_neg (by simp), changeK_none h.hit]
    exact Or.inr ⟨_, rfl, rfl, fun _ => rfl, rfl, h.okc hi (by decide) ha hz hs (fun e => absurd e (by decide)), ⟨(askE_one h1).2, (fun e => absurd (show (1 : Int) = 2 from e) (by decide))⟩, hs, (fun e => absurd e (by decide)), fun _ => rfl⟩
  ·rw [if_neg h1]; exact Or.inl ⟨_, h1, rfl⟩
 rw [if_neg h0']
 by_cases h2 : k = 2
 ·subst h2
  rw [if_pos rfl]
  unfold moveK
  by_cases h1 : askE st.down [a, b] = 0
  ·rw [if_pos h1]
   by_cases h3 : hasF st.now a = true
   ·rw [if_pos h3]
    by_cases h4 : a = b
    ·rw [if_pos h4]; exact Or.inl ⟨1, by decide, rfl⟩
    ·rw [if_neg h4, changeK_none h.hit]
     exact Or.inr ⟨_, rfl, rfl, fun e => absurd e (by decide), rfl, h.okc hi (by decide) ha hb hz (fun e => absurd e (by decide)), ⟨(askE_two h1).2.1, fun _ => ⟨(askE_two h1).2.2, h4⟩⟩, hz, (fun e => absurd e (by decide)), (fun e => absurd e (by decide))⟩
   ·rw [if_neg h3]; exact Or.inl ⟨4, by decide, rfl⟩
  ·rw [if_neg h1]; exact Or.inl ⟨_, h1, rfl⟩
 rw [if_neg h2]
 by_cases h3 : k = 3
 ·subst h3
  rw [if_pos rfl]
  unfold removeK
  by_cases h1 : askE st.down [a] = 0
  ·rw [if_pos h1]
   by_cases h3 : hasF st.now a = true
   ·rw [if_pos h3, changeK_none h.hit]
    exact Or.inr ⟨_, rfl, rfl, fun e => absurd e (by decide), rfl, h.okc hi (by decide) ha hz hz (fun e => absurd e (by decide)), ⟨(askE_one h1).2, (fun e => absurd (show (3 : Int) = 2 from e) (by decide))⟩, hz, (fun e => absurd e (by decide)), (fun e => absurd e (by decide))⟩
   ·rw [if_neg h3]; exact Or.inl ⟨4, by decide, rfl⟩
  ·rw [if_neg h1]; exact Or.inl ⟨_, h1, rfl⟩
 rw [if_neg h3]
 obtain rfl : k = 4 := by omega
 unfold cutK
 by_cases h1 : askE st.down [a] = 0
 ·rw [if_pos h1]
  by_cases h3 : hasF st.now a = true
  ·rw [if_pos h3]
   by_cases h4 : 0 ≤ n ∧ n ≤ ((getF st.now a).size : Int)
   ·rw [if_pos h4, changeK_none h.hit]
    exact Or.inr ⟨_, rfl, rfl, fun e => absurd e (by decide), rfl, h.okc hi (by decide) ha hz hz (fun _ => h4), ⟨(askE_one h1).2, (fun e => absurd (show (4 : Int) = 2 from e) (by decide))⟩, hz, (fun e => absurd e (by decide)), (fun e => absurd e (by decide))⟩
   ·rw [if_neg h4]; exact Or.inl ⟨1, by decide, rfl⟩
  ·rw [if_neg h3]; exact Or.inl ⟨4, by decide, rfl⟩
 ·rw [if_neg h1]; exact Or.inl ⟨_, h1, rfl⟩
theorem Good.call {i : Nat} {st : DK} (h : Good i st) (hi : i ≤ 1000) {k : Int} {a b s : ByteArray} {n : Int} (hk : 0 ≤ k ∧ k ≤ 4) (ha : a.size ≤ BM) (hb : b.size ≤ BM) (hs : s.size ≤ BM) : Good (i + 1) (callK st k a b s n).1 := by
 rcases call_cases h hi (n := n) hk ha hb hs with ⟨e, _, he⟩ | ⟨c, _, _, _, hc, h1, h2, h3, _⟩
 ·rw [he]; exact h.mono (Nat.le_succ _)
 ·rw [hc]; exact h.add h1 h2 h3
end Go.Proofs.YtpgbkeaaklglkaaGreatDoor.Q