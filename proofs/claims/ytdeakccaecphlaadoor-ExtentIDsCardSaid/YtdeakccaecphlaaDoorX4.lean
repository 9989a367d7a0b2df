/- What is put. -/
import Derived.Outline
import Derived.Deep.DeepCutAuto
import Derived.Test.YtdeakccaecphlaaDoorX2
namespace Go.Proofs.YtdeakccaecphlaaDoor.Q
open Go.Maps Go.WideShapes Go.WideMaps Go.RowKit Go.Proofs.YtdeakccaecphlaaDoorW.PrintWords Go.Proofs.YtdeakccaecphlaaDoorW.PrintLast Go.Proofs.YtdeakccaecphlaaDoorW.PrintMore
set_option linter.unusedVariables false
set_option linter.unusedSimpArgs false
set_option maxHeartbeats 10000000
set_option maxRecDepth 100000
/-! what is put -/
def fnsV (b2 b3 p6 d : Nat) : List Value :=
 [.func (.func 27) #[] #[.pointer (some ⟨b2, 0, none⟩), .pointer (some ⟨b3, 0, none⟩)], .func (.func 30) #[.pointer (some ⟨d, 0, none⟩)] #[],
 .func (.func 31) #[] #[.pointer (some ⟨b2, 0, none⟩), .pointer (some ⟨p6, 0, none⟩)], .func (.func 30) #[.pointer (some ⟨d, 0, none⟩)] #[]]
abbrev cWn (F : ByteArray) : Chg := ⟨1, nEN, ⟨#[]⟩, F, 0⟩
abbrev cMn (id : ByteArray) : Chg := ⟨2, nEN, eId id, ⟨#[]⟩, 0⟩
def putSt (l : Fs) (n : Int) (F id : ByteArray) : Nat → DK
 | 0 => idl l n
 | 1 => mid l (putF l nEN F) [cWn F] (n + 1)
 | 2 => idl (putF l nEN F) (n + 1)
 | 3 => mid (putF l nEN F) (putF l (eId id) F) [cMn id] (n + 1 + 1)
 | _ => idl (putF l (eId id) F) (n + 1 + 1)
def putG (i : Nat) : Nat → Nat
 | 0 => i
 | 1 => i + 1
 | 2 => i + 1
 | _ => i + 2
theorem idl_write {l : Fs} {n : Int} {nm s : ByteArray} (h : nameS nm = true) : writeK (idl l n) nm s = (mid l (putF l nm s) [⟨1, nm, ⟨#[]⟩, s, 0⟩] (n + 1), 0) := by
 unfold writeK
 rw [if_pos (show askE (idl l n).down [nm] = 0 by unfold askE idl; rw [if_neg (by simp), if_pos (by rw [List.all_cons, h]; rfl)]), if_neg (show ¬ roomE (idl l n) (getF (idl l n).now nm).size s.size = true by unfold roomE idl; simp), changeK_none (show hitI (idl l n) = none from rfl)]
 rfl
theorem idl_move {l : Fs} {n : Int} {a b : ByteArray} (ha : nameS a = true) (hb : nameS b = true) (hh : hasF l a = true) (hab : a ≠ b) : moveK (idl l n) a b = (mid l (delF (putF l b (getF l a)) a) [⟨2, a, b, ⟨#[]⟩, 0⟩] (n + 1), 0) := by
 unfold moveK
 rw [if_pos (show askE (idl l n).down [a, b] = 0 by unfold askE idl; rw [if_neg (by simp), if_pos (by rw [List.all_cons, ha, List.all_cons, hb]; rfl)]), if_pos (show hasF (idl l n).now a = true from hh), if_neg hab, changeK_none (show hitI (idl l n) = none from rfl)]
 rfl
theorem mid_sync (l now : Fs) (ws : List Chg) (n : Int) : syncK (mid l now ws n) = idl now n ∧ syncE (mid l now ws n) = 0 := syncK_up rfl
theorem Kp.cell {ok : Nat → Prop} {w w' : World} (h : Kp ok w w') {a : Addr} {v : Value} (hn : ¬ ok a.block) (hc : w.cell? a = some v) : w'.cell? a = some v := (World.cell?_of_block (h.block a.block (World.block_lt_of_cell? w _ hc) hn)).trans hc
theorem put1_calls {w : World} {b2 b3 x d : Nat} {ok : Nat → Prop} {i : Nat} {l : Fs} {n : Int} {s : ByteArray} (k2 : w.cell? ⟨b2, 0, none⟩ = some (.pointer (some ⟨x, 0, none⟩))) (k3 : w.cell? ⟨b3, 0, none⟩ = some (.string s)) (kx : w.cell? ⟨x, 0, none⟩ = some (.pointer (some ⟨d, 0, none⟩)))
  (n2 : ¬ ok b2) (n3 : ¬ ok b3) (nx : ¬ ok x) (hD : IsD w d ok (idl l n)) (hnew : ∀ k, w.heap.size ≤ k → ok k) (hg : Good i (idl l n)) (hi : i ≤ 900) (hs : s.size ≤ 4096) :
  Calls Tryd.prog 27 #[.pointer (some ⟨b2, 0, none⟩), .pointer (some ⟨b3, 0, none⟩)] w fun e w' => e = .returned (.int .i64 0) ∧ IsD w' d ok (mid l (putF l nEN (laidS s)) [cWn (laidS s)] (n + 1)) ∧ Good (i + 1) (mid l (putF l nEN (laidS s)) [cWn (laidS s)] (n + 1)) ∧ Kp ok w w' := by
 have hu := Tryd.underlying46
 have hz := laidS_le s
 have D := Aside0.mk hD
 have N := Aside0.mk hnew
 have G := Aside0.mk hg
 have HI := Aside0.mk hi
 have HS := Aside0.mk hs
 have hok : OkC (idl l n).now (cWn (laidS s)) := hg.okc (by omega) (by decide) (by decide) (by decide) (by simp only [BM]; omega) (fun e => absurd e (by decide))
 have G2 : Aside0 (Good (i + 1) (mid l (putF l nEN (laidS s)) [cWn (laidS s)] (n + 1))) := ⟨by
  have := hg.call (k := 1) (a := nEN) (b := ⟨#[]⟩) (s := laidS s) (n := 0) (by omega) (by decide) (by decide) (by decide) (by simp only [BM]; omega)
  unfold callK at this
  rw [if_neg (by decide), if_pos rfl, idl_write nEN_name] at this
  exact this⟩
 have HOK := Aside0.mk hok
 have HZ := Aside0.mk hz
 have N2 := Aside0.mk n2
 have N3 := Aside0.mk n3
 have NX := Aside0.mk nx
 clear hD hnew hg hi hs hz hok n2 n3 nx
 go_enter Tryd.func27, Tryd.ntmps27
 go_wp2_with (fail)
 go_region_held3 (fun w' => w'.cell? ⟨b2, 0, none⟩ = some (.pointer (some ⟨x, 0, none⟩)) ∧ w'.cell? ⟨b3, 0, none⟩ = some (.string s) ∧ w'.cell? ⟨x, 0, none⟩ = some (.pointer (some ⟨d, 0, none⟩))) (go_keep)
  ((first
   | (go_at_call 29; (with_reducible refine (extent_laid.calls 4000001 s (laidS s) _ (oct_laid s (by have := HS.out; omega) _ (by omega))).mono ?_); rintro e w5 ⟨rfl, hb⟩; have q2 : w5.cell? ⟨b2, 0, none⟩ = some (.pointer (some ⟨x, 0, none⟩)) := (hb.cell (World.block_lt_of_cell? _ _ (by exact k2))).trans (by exact k2); have q3 : w5.cell? ⟨b3, 0, none⟩ = some (.string s) := (hb.cell (World.block_lt_of_cell? _ _ (by exact k3))).trans (by exact k3); have qx : w5.cell? ⟨x, 0, none⟩ = some (.pointer (some ⟨d, 0, none⟩)) := (hb.cell (World.block_lt_of_cell? _ _ (by exact kx))).trans (by exact kx); have D5 : Aside0 (IsD w5 d ok (idl l n)) := ⟨D.out.step (fun k _ hk => hb.block k hk)⟩; have B5 : Aside0 (Below w.heap.size w w5) := ⟨(below_drew1 (Below.refl _ _)).trans hb⟩; clear hb)
   | (go_at_call 28; (with_reducible refine (write_calls (ok := ok) (st := idl l n) ?d1 ?d2 nEN (laidS s) (by decide) ⟨G.out.small (by have := HI.out; omega), by have := HZ.out; have := HS.out; omega⟩ (fun _ _ => G.out.can (by have := HI.out; omega) HOK.out)).mono ?_); (case d1 => exact D5.out.step (fun _ _ _ => rfl)); (case d2 => exact fun k hk => N.out k (Nat.le_trans B5.out.size hk)); rintro e w6 ⟨rfl, hI, hK⟩; rw [idl_write nEN_name] at hI ⊢; have D6 := Aside0.mk hI; have K6 : Aside0 (Kp ok w w6) := ⟨(Kp.of_below B5.out).trans hK⟩; have r2 := hK.cell N2.out q2; have r3 := hK.cell N3.out q3; have rx := hK.cell NX.out qx; clear hI hK)))
 all_goals go_wp2
 all_goals go_ret
 all_goals exact ⟨rfl, D6.out, G2.out, K6.out⟩
theorem put2_calls {w : World} {b2 b6 x d : Nat} {ok : Nat → Prop} {i : Nat} {l : Fs} {n : Int} {F id : ByteArray} (k2 : w.cell? ⟨b2, 0, none⟩ = some (.pointer (some ⟨x, 0, none⟩))) (k6 : w.cell? ⟨b6, 0, none⟩ = some (.string id)) (kx : w.cell? ⟨x, 0, none⟩ = some (.pointer (some ⟨d, 0, none⟩)))
  (n2 : ¬ ok b2) (n6 : ¬ ok b6) (nx : ¬ ok x) (hD : IsD w d ok (idl (putF l nEN F) n)) (hnew : ∀ k, w.heap.size ≤ k → ok k) (hg : Good i (idl (putF l nEN F) n)) (hi : i ≤ 900) (hr : Rises l) (hid : mayS id = true) (hno : hasF l nEN = false) :
  Calls Tryd.prog 31 #[.pointer (some ⟨b2, 0, none⟩), .pointer (some ⟨b6, 0, none⟩)] w fun e w' => e = .returned (.int .i64 0) ∧ IsD w' d ok (mid (putF l nEN F) (putF l (eId id) F) [cMn id] (n + 1)) ∧ Good (i + 1) (mid (putF l nEN F) (putF l (eId id) F) [cMn id] (n + 1)) ∧ Kp ok w w' := by
 have hu := Tryd.underlying46
 have hz := (mayS_iff.1 hid).2
 have hn := may_name hid
 have hh : hasF (putF l nEN F) nEN = true := hasF_iff.2 ⟨(nEN, F), mem_putF.2 (Or.inl rfl), rfl⟩
 have hmv := idl_move (n := n) nEN_name hn hh (fun e => e_new hid e.symm)
 rw [put_move hr (e_new hid) hno F] at hmv
 have hes : (eId id).size = 66 := by rw [eId_size, hz]
 have hok : OkC (idl (putF l nEN F) n).now (cMn id) := hg.okc (by omega) (by decide) (by decide) (by simp only [BM]; omega) (by decide) (fun e => absurd e (by decide))
 have G2 : Aside0 (Good (i + 1) (mid (putF l nEN F) (putF l (eId id) F) [cMn id] (n + 1))) := ⟨by
  have := hg.call (k := 2) (a := nEN) (b := eId id) (s := ⟨#[]⟩) (n := 0) (by omega) (by decide) (by decide) (by simp only [BM]; omega) (by decide)
  unfold callK at this
  rw [if_neg (by decide), if_neg (by decide), if_pos rfl, hmv] at this
  exact this⟩
 have hsz : ((⟨#[101, 46]⟩ : ByteArray).size + id.size > 9223372036854775807) = False := eq_false (by have e : (⟨#[101, 46]⟩ : ByteArray).size = 2 := rfl; omega)
 have hsz2 : (2 + id.size > 9223372036854775807) = False := eq_false (by omega)
 have hsz3 : (9223372036854775807 < 2 + id.size) = False := eq_false (by omega)
 have D := Aside0.mk hD
 have N := Aside0.mk hnew
 have G := Aside0.mk hg
 have HI := Aside0.mk hi
 have HOK := Aside0.mk hok
 have HES := Aside0.mk hes
 have N2 := Aside0.mk n2
 have N6 := Aside0.mk n6
 have NX := Aside0.mk nx
 have MV := Aside0.mk hmv
 clear hD hnew hg hi hok hz hn hh hmv hes hid hno hr n2 n6 nx
 go_enter Tryd.func31, Tryd.ntmps31
 go_wp2_with (fail)
 go_region_held3 (fun w' => w'.cell? ⟨b2, 0, none⟩ = some (.pointer (some ⟨x, 0, none⟩)) ∧ w'.cell? ⟨b6, 0, none⟩ = some (.string id) ∧ w'.cell? ⟨x, 0, none⟩ = some (.pointer (some ⟨d, 0, none⟩))) (go_keep)
  ((go_at_call 32; (with_reducible refine (move_calls (ok := ok) (st := idl (putF l nEN F) n) ?d1 ?d2 nEN (nE ++ id) (by decide) (by have h : (nE ++ id).size = 66 := HES.out; omega) (fun _ _ _ _ => G.out.can (by have := HI.out; omega) HOK.out)).mono ?_); (case d1 => exact D.out.step (fun _ _ _ => rfl)); (case d2 => exact fun k hk => N.out k hk); rintro e w6 ⟨rfl, hI, hK⟩; rw [MV.out] at hI ⊢; have D6 := Aside0.mk hI; have K6 : Aside0 (Kp ok w w6) := ⟨((Kp.refl _ _).drew).trans hK⟩; have r2 := K6.out.cell N2.out k2; have r6 := K6.out.cell N6.out k6; have rx := K6.out.cell NX.out kx; clear hI hK))
 all_goals go_wp2
 all_goals go_ret
 all_goals exact ⟨rfl, D6.out, G2.out, K6.out⟩
theorem Put_new {w : World} {x d : Nat} {ok : Nat → Prop} {i : Nat} {l : Fs} {n : Int} (h : Sto w x d ok i l n) (s : ByteArray) (h0 : 0 < s.size) (h1 : s.size ≤ 4096) (hh : hasX l (idS s) = false) (hno : hasF l nEN = false) (hi : i ≤ 800) :
  Calls Tryd.prog 12 #[.pointer (some ⟨x, 0, none⟩), .string s] w fun e w' => e = .returned (.tuple #[.string (idS s), .int .i64 0]) ∧ Sto w' x d ok (i + 2) (putF l (eId (idS s)) (laidS s)) (n + 2) ∧ Kp ok w w' := by
 have hu := Tryd.underlying46
 have H := Aside0.mk h
 have q1 : s.toList.isEmpty = false := by
  rw [← sameN_nil, ← Bool.not_eq_true, sameN_iff]
  rintro rfl
  exact absurd h0 (by decide)
 have q2 : ((s.size : Int) > 4096) = False := eq_false (by omega)
 have H1 := Aside0.mk h1
 have HH := Aside0.mk hh
 have HA2 := Aside0.mk (heap_alloc_new w (.cells #[.pointer (some ⟨x, 0, none⟩)] 31 (0, 0)))
 have HA3 := Aside0.mk (heap_alloc_new (w.alloc (.cells #[.pointer (some ⟨x, 0, none⟩)] 31 (0, 0))) (.cells #[.string s] 9 (0, 0)))
 have HNO := Aside0.mk hno
 have HI := Aside0.mk hi
 clear h h0 h1 hh hno hi
 go_enter Tryd.func12, Tryd.ntmps12
 go_wp2_with (fail)
 have hz : (w.alloc (.cells #[.pointer (some ⟨x, 0, none⟩)] 31 (0, 0))).heap.size = w.heap.size + 1 := by simp
 have b0 : Below w.heap.size w ((w.alloc (.cells #[.pointer (some ⟨x, 0, none⟩)] 31 (0, 0))).alloc (.cells #[.string s] 9 (0, 0))) := below_alloc (below_alloc (Below.refl _ _) _) _
 have hk2 : ((w.alloc (.cells #[.pointer (some ⟨x, 0, none⟩)] 31 (0, 0))).alloc (.cells #[.string s] 9 (0, 0))).heap[w.heap.size]? = some (.cells #[.pointer (some ⟨x, 0, none⟩)] 31 (0, 0)) := (Below.heap_alloc _ _ _ (by rw [hz]; omega)).trans HA2.out
 have hk3 := HA3.out
 rw [hz] at hk3
 have B0 := Aside0.mk b0
 have K2 := Aside0.mk hk2
 have K3 := Aside0.mk hk3
 clear hk2 hk3 b0 hz HA2 HA3
 generalize (w.alloc (.cells #[.pointer (some ⟨x, 0, none⟩)] 31 (0, 0))).alloc (.cells #[.string s] 9 (0, 0)) = w0 at B0 K2 K3 ⊢
 refine (ID_calls s (by have := H1.out; omega) _ (H.out.env.tab.below B0.out)).mono ?_
 rintro e w1 ⟨rfl, hb⟩
 have B1 := Aside0.mk (below_step B0.out hb)
 have K2 := Aside0.mk ((hb.block _ (lt_of_some K2.out)).trans K2.out)
 have K3 := Aside0.mk ((hb.block _ (lt_of_some K3.out)).trans K3.out)
 clear hb
 have b2 : Below w1.heap.size w1 (w1.alloc (.cells #[.string (idS s)] 9 (0, 0))) := below_alloc (Below.refl _ _) _
 have e2 : (w1.alloc (.cells #[.string (idS s)] 9 (0, 0))).cell? ⟨w.heap.size, 0, none⟩ = some (.pointer (some ⟨x, 0, none⟩)) := (blk_cell ((b2.block _ (lt_of_some K2.out)).trans K2.out) 0).trans rfl
 have e6 : (w1.alloc (.cells #[.string (idS s)] 9 (0, 0))).cell? ⟨w1.heap.size, 0, none⟩ = some (.string (idS s)) := (blk_cell (heap_alloc_new w1 _) 0).trans rfl
 go_wp2_with (fail)
 have B2 := Aside0.mk (below_step B1.out b2)
 have K2 := Aside0.mk ((b2.block _ (lt_of_some K2.out)).trans K2.out)
 have K3 := Aside0.mk ((b2.block _ (lt_of_some K3.out)).trans K3.out)
 have K6 := Aside0.mk (heap_alloc_new w1 (.cells #[.string (idS s)] 9 (0, 0)))
 clear b2 e2 e6
 generalize h6 : w1.heap.size = p6 at K6 ⊢
 have P6 := Aside0.mk h6
 clear h6
 generalize w1.alloc (.cells #[.string (idS s)] 9 (0, 0)) = w2 at B2 K2 K3 K6 ⊢
 refine (Has_calls (H.out.below B2.out) (idS s) (by rw [idS_size]; decide)).mono ?_
 rintro e w3 ⟨rfl, hb⟩
 rw [HH.out]
 have B3 := Aside0.mk (below_step B2.out hb)
 have K2 := Aside0.mk ((hb.block _ (lt_of_some K2.out)).trans K2.out)
 have K3 := Aside0.mk ((hb.block _ (lt_of_some K3.out)).trans K3.out)
 have K6 := Aside0.mk ((hb.block _ (lt_of_some K6.out)).trans K6.out)
 clear hb
 have c2 : w3.cell? ⟨w.heap.size, 0, none⟩ = some (.pointer (some ⟨x, 0, none⟩)) := (blk_cell K2.out 0).trans rfl
 have cx : w3.cell? ⟨x, 0, none⟩ = some (.pointer (some ⟨d, 0, none⟩)) := (blk_cell (H.out.env.below B3.out).blk 0).trans rfl
 go_upto_region 8 with (fail)
 go_cut [39, 40, 41] (fun u39 u40 u41 wx => u39 = .slice (some ⟨w3.heap.size, 0, none⟩) 4 4 ∧ u40 = .int .i64 4 ∧ u41 = .int .i64 0 ∧ (w3.alloc (.cells (fnsV w.heap.size (w.heap.size + 1) p6 d).toArray 52 (0, 0))).drew = wx)
 case first =>
  go_region_held3 (fun w' => w'.cell? ⟨w.heap.size, 0, none⟩ = some (.pointer (some ⟨x, 0, none⟩)) ∧ w'.cell? ⟨x, 0, none⟩ = some (.pointer (some ⟨d, 0, none⟩))) (go_keep) (fail)
  all_goals (go_wp2_with (fail); go_meet; (case rel => exact ⟨rfl, rfl, rfl, rfl⟩))
 case rest =>
  obtain ⟨rfl, rfl, rfl, hwx⟩ := hcut
  have HW := Aside0.mk hwx
  clear hwx c2 cx
  have NW : Aside0 (w3.heap.size + 1 = wc.heap.size) := ⟨by rw [← HW.out]; simp [World.drew]⟩
  have b4 : Below w3.heap.size w3 wc := by rw [← HW.out]; exact below_drew1 (below_alloc (Below.refl _ _) _)
  have KF : Aside0 (wc.heap[w3.heap.size]? = some (.cells (fnsV w.heap.size (w.heap.size + 1) p6 d).toArray 52 (0, 0))) := ⟨by rw [← HW.out]; exact heap_alloc_new w3 _⟩
  have B4 := Aside0.mk (below_step B3.out b4)
  have K2 := Aside0.mk ((b4.block _ (lt_of_some K2.out)).trans K2.out)
  have K3 := Aside0.mk ((b4.block _ (lt_of_some K3.out)).trans K3.out)
  have K6 := Aside0.mk ((b4.block _ (lt_of_some K6.out)).trans K6.out)
  clear b4
  obtain ⟨okp, hokp⟩ : ∃ okp : Nat → Prop, okp = fun k => (ok k ∧ k < w.heap.size) ∨ wc.heap.size ≤ k := ⟨_, rfl⟩
  have OKP := Aside0.mk hokp
  have D4 : Aside0 (IsD wc d okp (idl l n)) := ⟨by rw [hokp]; exact (H.out.disk.bound.below B4.out).mono (fun k hk => Or.inl hk)⟩
  have NEW : Aside0 (∀ k, wc.heap.size ≤ k → okp k) := ⟨by rw [hokp]; exact fun k hk => Or.inr hk⟩
  have NO : Aside0 (∀ k, w.heap.size ≤ k → k < wc.heap.size → ¬ okp k) := ⟨by rw [hokp]; rintro k h1 h2 (⟨_, h3⟩ | h3) <;> omega⟩
  have NOX : Aside0 (¬ okp x) := ⟨by rw [hokp]; rintro (⟨h3, _⟩ | h3); exact H.out.env.nox h3; have := H.out.env.lt; have := B4.out.size; omega⟩
  have L2 := Aside0.mk (lt_of_some K2.out)
  have L3 := Aside0.mk (lt_of_some K3.out)
  have L6 := Aside0.mk (lt_of_some K6.out)
  have LF := Aside0.mk (lt_of_some KF.out)
  have P6' : Aside0 (w.heap.size ≤ p6) := ⟨by have h1 := B1.out.size; have h2 := P6.out; omega⟩
  have L3' : Aside0 (w.heap.size ≤ w3.heap.size) := ⟨B3.out.size⟩
  have CX : Aside0 (wc.cell? ⟨x, 0, none⟩ = some (.pointer (some ⟨d, 0, none⟩))) := ⟨(blk_cell (H.out.env.below B4.out).blk 0).trans rfl⟩
  have OKM : Aside0 (∀ k, okp k → ok k) := ⟨by rw [hokp]; rintro k (⟨h3, _⟩ | h3); exact h3; exact H.out.env.new k (Nat.le_trans B4.out.size h3)⟩
  have OKI : Aside0 (∀ k, k < w.heap.size → okp k → ok k) := ⟨fun k _ hk => OKM.out k hk⟩
  clear hokp
  generalize hF : laidS s = F
  have HF := Aside0.mk hF
  clear hF
  go_wp2_with (fail)
  go_loopg [41] 5 (fun kq v41 w' => ∃ (j : Nat) (J : Int), v41 = .int .i64 J ∧ Aside0 (J = j ∧ j + kq = 5 ∧ j ≤ 4) ∧ Aside0 (IsD w' d okp (putSt l n F (idS s) j)) ∧ Aside0 (Good (putG i j) (putSt l n F (idS s) j)) ∧ Aside0 (Kp okp wc w'))
  case atStart => exact ⟨0, 0, rfl, ⟨rfl, rfl, by omega⟩, D4, ⟨H.out.good⟩, ⟨Kp.refl _ _⟩⟩
  case round =>
   clear D4
   obtain ⟨j, J, rfl, HJ, HD, HGD, HK⟩ := hrel
   cases gk with
   | zero => have := HJ.out; omega
   | succ k1 =>
    have hfn : wr.heap[w3.heap.size]? = some (.cells (fnsV w.heap.size (w.heap.size + 1) p6 d).toArray 52 (0, 0)) := (HK.out.block _ LF.out (NO.out _ L3'.out LF.out)).trans KF.out
    by_cases hj0 : j = 0
    ·subst hj0
     obtain rfl : J = 0 := HJ.out.1
     have f0 : wr.cell? ⟨w3.heap.size, 0, none⟩ = some (.func (.func 27) #[] #[.pointer (some ⟨w.heap.size, 0, none⟩), .pointer (some ⟨w.heap.size + 1, 0, none⟩)]) := (blk_cell hfn 0).trans rfl
     clear hfn
     go_wp2_with (fail)
     refine (put1_calls (i := i) (x := x) (d := d) (ok := okp) (l := l) (n := n) (s := s) (HK.out.cell (NO.out _ (Nat.le_refl _) L2.out) ((blk_cell K2.out 0).trans rfl)) (HK.out.cell (NO.out _ (Nat.le_succ _) L3.out) ((blk_cell K3.out 0).trans rfl)) (HK.out.cell NOX.out CX.out) (NO.out _ (Nat.le_refl _) L2.out) (NO.out _ (Nat.le_succ _) L3.out) NOX.out HD.out (fun k hk => NEW.out k (Nat.le_trans HK.out.size hk)) HGD.out (by have := HI.out; omega) H1.out).mono ?_
     rintro e w5 ⟨rfl, hI, hG, hK⟩
     rw [HF.out] at hI hG
     have D5 : Aside0 (IsD w5 d okp (putSt l n F (idS s) 1)) := ⟨hI⟩
     have G5 : Aside0 (Good (putG i 1) (putSt l n F (idS s) 1)) := ⟨hG⟩
     have K5 := Aside0.mk (HK.out.trans hK)
     clear hI hG hK
     go_wp2_with (fail)
     go_roundg k1
     case measure => have := HJ.out; omega
     case rel => exact ⟨1, 1, rfl, ⟨rfl, by have := HJ.out; omega, by omega⟩, D5, G5, K5⟩
    by_cases hj1 : j = 1
    ·subst hj1
     obtain rfl : J = 1 := HJ.out.1
     have f1 : wr.cell? ⟨w3.heap.size, 1, none⟩ = some (.func (.func 30) #[.pointer (some ⟨d, 0, none⟩)] #[]) := (blk_cell hfn 1).trans rfl
     clear hfn
     go_wp2_with (fail)
     refine (sync_calls HD.out (fun k hk => NEW.out k (Nat.le_trans HK.out.size hk))).mono ?_
     rintro e w5 ⟨rfl, hI, hK⟩
     rw [show syncE (putSt l n F (idS s) 1) = 0 from (mid_sync _ _ _ _).2]
     have D5 : Aside0 (IsD w5 d okp (putSt l n F (idS s) 2)) := ⟨by rw [show syncK (putSt l n F (idS s) 1) = idl (putF l nEN F) (n + 1) from (mid_sync _ _ _ _).1] at hI; exact hI⟩
     have G5 : Aside0 (Good (putG i 2) (putSt l n F (idS s) 2)) := ⟨by have := HGD.out.sync.1; rw [show syncK (putSt l n F (idS s) 1) = idl (putF l nEN F) (n + 1) from (mid_sync _ _ _ _).1] at this; exact this⟩
     have K5 := Aside0.mk (HK.out.trans hK)
     clear hI hK
     go_wp2_with (fail)
     go_roundg k1
     case measure => have := HJ.out; omega
     case rel => exact ⟨2, 2, rfl, ⟨rfl, by have := HJ.out; omega, by omega⟩, D5, G5, K5⟩
    by_cases hj2 : j = 2
    ·subst hj2
     obtain rfl : J = 2 := HJ.out.1
     have f2 : wr.cell? ⟨w3.heap.size, 2, none⟩ = some (.func (.func 31) #[] #[.pointer (some ⟨w.heap.size, 0, none⟩), .pointer (some ⟨p6, 0, none⟩)]) := (blk_cell hfn 2).trans rfl
     clear hfn
     go_wp2_with (fail)
     refine (put2_calls (i := i + 1) (x := x) (d := d) (ok := okp) (l := l) (n := n + 1) (F := F) (id := idS s) (HK.out.cell (NO.out _ (Nat.le_refl _) L2.out) ((blk_cell K2.out 0).trans rfl)) (HK.out.cell (NO.out _ P6'.out L6.out) ((blk_cell K6.out 0).trans rfl)) (HK.out.cell NOX.out CX.out) (NO.out _ (Nat.le_refl _) L2.out) (NO.out _ P6'.out L6.out) NOX.out HD.out (fun k hk => NEW.out k (Nat.le_trans HK.out.size hk)) HGD.out (by have := HI.out; omega) H.out.good.ris (idS_may s) HNO.out).mono ?_
     rintro e w5 ⟨rfl, hI, hG, hK⟩
     have D5 : Aside0 (IsD w5 d okp (putSt l n F (idS s) 3)) := ⟨hI⟩
     have G5 : Aside0 (Good (putG i 3) (putSt l n F (idS s) 3)) := ⟨hG⟩
     have K5 := Aside0.mk (HK.out.trans hK)
     clear hI hG hK
     go_wp2_with (fail)
     go_roundg k1
     case measure => have := HJ.out; omega
     case rel => exact ⟨3, 3, rfl, ⟨rfl, by have := HJ.out; omega, by omega⟩, D5, G5, K5⟩
    by_cases hj3 : j = 3
    ·subst hj3
     obtain rfl : J = 3 := HJ.out.1
     have f3 : wr.cell? ⟨w3.heap.size, 3, none⟩ = some (.func (.func 30) #[.pointer (some ⟨d, 0, none⟩)] #[]) := (blk_cell hfn 3).trans rfl
     clear hfn
     go_wp2_with (fail)
     refine (sync_calls HD.out (fun k hk => NEW.out k (Nat.le_trans HK.out.size hk))).mono ?_
     rintro e w5 ⟨rfl, hI, hK⟩
     rw [show syncE (putSt l n F (idS s) 3) = 0 from (mid_sync _ _ _ _).2]
     have D5 : Aside0 (IsD w5 d okp (putSt l n F (idS s) 4)) := ⟨by rw [show syncK (putSt l n F (idS s) 3) = idl (putF l (eId (idS s)) F) (n + 1 + 1) from (mid_sync _ _ _ _).1] at hI; exact hI⟩
     have G5 : Aside0 (Good (putG i 4) (putSt l n F (idS s) 4)) := ⟨by have := HGD.out.sync.1; rw [show syncK (putSt l n F (idS s) 3) = idl (putF l (eId (idS s)) F) (n + 1 + 1) from (mid_sync _ _ _ _).1] at this; exact this⟩
     have K5 := Aside0.mk (HK.out.trans hK)
     clear hI hK
     go_wp2_with (fail)
     go_roundg k1
     case measure => have := HJ.out; omega
     case rel => exact ⟨4, 4, rfl, ⟨rfl, by have := HJ.out; omega, by omega⟩, D5, G5, K5⟩
    ·obtain rfl : j = 4 := by have := HJ.out; omega
     obtain rfl : J = 4 := HJ.out.1
     have c6 : wr.cell? ⟨p6, 0, none⟩ = some (.string (idS s)) := HK.out.cell (NO.out _ P6'.out L6.out) ((blk_cell K6.out 0).trans rfl)
     clear hfn hj0 hj1 hj2 hj3
     go_wp2
     go_ret2
     have KW : Kp ok w wr := ⟨HK.out.os.trans B4.out.os, HK.out.tape.trans B4.out.tape, HK.out.output.trans B4.out.output, Nat.le_trans B4.out.size HK.out.size, fun k hk hno => (HK.out.block k (Nat.lt_of_lt_of_le hk B4.out.size) (fun h => hno (OKI.out k hk h))).trans (B4.out.block k hk)⟩
     refine ⟨rfl, ⟨H.out.env.keep KW, ?_, ?_, ?_⟩, KW⟩
     ·rw [HF.out, show n + 2 = n + 1 + 1 by omega]
      exact HD.out.mono (fun k hk => OKM.out k hk)
     ·rw [HF.out, show n + 2 = n + 1 + 1 by omega]
      exact HGD.out
     ·intro p hp
      rcases mem_putF.1 hp with rfl | ⟨hp, _⟩
      ·have := laidS_le s; have := H1.out; show (laidS s).size ≤ _; omega
      ·exact H.out.sml p hp
theorem Put_has {w : World} {x d : Nat} {ok : Nat → Prop} {i : Nat} {l : Fs} {n : Int} (h : Sto w x d ok i l n) (s : ByteArray) (h0 : 0 < s.size) (h1 : s.size ≤ 4096) (hh : hasX l (idS s) = true) :
  Calls Tryd.prog 12 #[.pointer (some ⟨x, 0, none⟩), .string s] w fun e w' => e = .returned (.tuple #[.string (idS s), .int .i64 0]) ∧ Below w.heap.size w w' := by
 have hu := Tryd.underlying46
 have H := Aside0.mk h
 have q1 : s.toList.isEmpty = false := by
  rw [← sameN_nil, ← Bool.not_eq_true, sameN_iff]
  rintro rfl
  exact absurd h0 (by decide)
 have q2 : ((s.size : Int) > 4096) = False := eq_false (by omega)
 have H1 := Aside0.mk h1
 have HH := Aside0.mk hh
 have HA2 := Aside0.mk (heap_alloc_new w (.cells #[.pointer (some ⟨x, 0, none⟩)] 31 (0, 0)))
 have HA3 := Aside0.mk (heap_alloc_new (w.alloc (.cells #[.pointer (some ⟨x, 0, none⟩)] 31 (0, 0))) (.cells #[.string s] 9 (0, 0)))
 clear h h0 h1 hh
 go_enter Tryd.func12, Tryd.ntmps12
 go_wp2_with (fail)
 have hz : (w.alloc (.cells #[.pointer (some ⟨x, 0, none⟩)] 31 (0, 0))).heap.size = w.heap.size + 1 := by simp
 have b0 : Below w.heap.size w ((w.alloc (.cells #[.pointer (some ⟨x, 0, none⟩)] 31 (0, 0))).alloc (.cells #[.string s] 9 (0, 0))) := below_alloc (below_alloc (Below.refl _ _) _) _
 have hk2 : ((w.alloc (.cells #[.pointer (some ⟨x, 0, none⟩)] 31 (0, 0))).alloc (.cells #[.string s] 9 (0, 0))).heap[w.heap.size]? = some (.cells #[.pointer (some ⟨x, 0, none⟩)] 31 (0, 0)) := (Below.heap_alloc _ _ _ (by rw [hz]; omega)).trans HA2.out
 have hk3 := HA3.out
 rw [hz] at hk3
 have B0 := Aside0.mk b0
 have K2 := Aside0.mk hk2
 have K3 := Aside0.mk hk3
 clear hk2 hk3 b0 hz HA2 HA3
 generalize (w.alloc (.cells #[.pointer (some ⟨x, 0, none⟩)] 31 (0, 0))).alloc (.cells #[.string s] 9 (0, 0)) = w0 at B0 K2 K3 ⊢
 refine (ID_calls s (by have := H1.out; omega) _ (H.out.env.tab.below B0.out)).mono ?_
 rintro e w1 ⟨rfl, hb⟩
 have B1 := Aside0.mk (below_step B0.out hb)
 have K2 := Aside0.mk ((hb.block _ (lt_of_some K2.out)).trans K2.out)
 have K3 := Aside0.mk ((hb.block _ (lt_of_some K3.out)).trans K3.out)
 clear hb
 have b2 : Below w1.heap.size w1 (w1.alloc (.cells #[.string (idS s)] 9 (0, 0))) := below_alloc (Below.refl _ _) _
 have e2 : (w1.alloc (.cells #[.string (idS s)] 9 (0, 0))).cell? ⟨w.heap.size, 0, none⟩ = some (.pointer (some ⟨x, 0, none⟩)) := (blk_cell ((b2.block _ (lt_of_some K2.out)).trans K2.out) 0).trans rfl
 have e6 : (w1.alloc (.cells #[.string (idS s)] 9 (0, 0))).cell? ⟨w1.heap.size, 0, none⟩ = some (.string (idS s)) := (blk_cell (heap_alloc_new w1 _) 0).trans rfl
 go_wp2_with (fail)
 have B2 := Aside0.mk (below_step B1.out b2)
 have K2 := Aside0.mk ((b2.block _ (lt_of_some K2.out)).trans K2.out)
 have K3 := Aside0.mk ((b2.block _ (lt_of_some K3.out)).trans K3.out)
 have K6 := Aside0.mk (heap_alloc_new w1 (.cells #[.string (idS s)] 9 (0, 0)))
 clear b2 e2 e6
 generalize h6 : w1.heap.size = p6 at K6 ⊢
 have P6 := Aside0.mk h6
 clear h6
 generalize w1.alloc (.cells #[.string (idS s)] 9 (0, 0)) = w2 at B2 K2 K3 K6 ⊢
 refine (Has_calls (H.out.below B2.out) (idS s) (by rw [idS_size]; decide)).mono ?_
 rintro e w3 ⟨rfl, hb⟩
 rw [HH.out]
 have B3 := Aside0.mk (below_step B2.out hb)
 have K2 := Aside0.mk ((hb.block _ (lt_of_some K2.out)).trans K2.out)
 have K3 := Aside0.mk ((hb.block _ (lt_of_some K3.out)).trans K3.out)
 have K6 := Aside0.mk ((hb.block _ (lt_of_some K6.out)).trans K6.out)
 clear hb
 have c6 : w3.cell? ⟨p6, 0, none⟩ = some (.string (idS s)) := (blk_cell K6.out 0).trans rfl
 go_wp2
 go_ret2
 exact ⟨rfl, B3.out⟩
theorem Put_bad {w : World} {x : Nat} (s : ByteArray) (h0 : s.size = 0 ∨ 4096 < s.size) :
  Calls Tryd.prog 12 #[.pointer (some ⟨x, 0, none⟩), .string s] w fun e w' => e = .returned (.tuple #[.string (⟨#[]⟩ : ByteArray), .int .i64 (putE s)]) ∧ Below w.heap.size w w' := by
 have hu := Tryd.underlying46
 have b0 : Aside0 (Below w.heap.size w ((w.alloc (.cells #[.pointer (some ⟨x, 0, none⟩)] 31 (0, 0))).alloc (.cells #[.string s] 9 (0, 0)))) := ⟨below_alloc (below_alloc (Below.refl _ _) _) _⟩
 by_cases hz : s.size = 0
 ·have q1 : s.toList.isEmpty = true := by
   rw [← sameN_nil, sameN_iff]
   exact ba_inj (List.length_eq_zero_iff.1 (by rw [tl_len]; exact hz))
  have HE : Aside0 (putE s = 1) := ⟨if_pos hz⟩
  clear h0 hz
  go_enter Tryd.func12, Tryd.ntmps12
  go_wp2
  go_ret2
  exact ⟨by rw [HE.out]; rfl, b0.out⟩
 ·have q1 : s.toList.isEmpty = false := by
   rw [← sameN_nil, ← Bool.not_eq_true, sameN_iff]
   rintro rfl
   exact absurd rfl hz
  have q2 : ((s.size : Int) > 4096) = True := eq_true (by omega)
  have HE : Aside0 (putE s = 2) := ⟨by unfold putE; rw [if_neg hz, if_pos (by omega)]⟩
  clear h0 hz
  go_enter Tryd.func12, Tryd.ntmps12
  go_wp2
  go_ret2
  exact ⟨by rw [HE.out]; rfl, b0.out⟩
theorem Sto.mono {w : World} {x d : Nat} {ok : Nat → Prop} {i j : Nat} {l : Fs} {n : Int} (h : Sto w x d ok i l n) (hij : i ≤ j) : Sto w x d ok j l n := ⟨h.env, h.disk, h.good.mono hij, h.sml⟩
theorem Put_calls {w : World} {x d : Nat} {ok : Nat → Prop} {i : Nat} {l : Fs} {n : Int} (h : Sto w x d ok i l n) (s : ByteArray) (hno : hasF l nEN = false) (hi : i ≤ 800) :
  Calls Tryd.prog 12 #[.pointer (some ⟨x, 0, none⟩), .string s] w fun e w' => e = .returned (.tuple #[.string (putI s), .int .i64 (putE s)]) ∧ (∃ n', Sto w' x d ok (i + 2) (putX l s) n') ∧ Kp ok w w' := by
 by_cases hb : s.size = 0 ∨ 4096 < s.size
 ·refine (Put_bad s hb).mono ?_
  rintro e w' ⟨rfl, hw⟩
  refine ⟨by unfold putI; rw [if_pos hb], ⟨n, ?_⟩, Kp.of_below hw⟩
  unfold putX
  rw [if_pos (by omega)]
  exact (h.below hw).mono (by omega)
 ·have hE : putE s = 0 := by unfold putE; rw [if_neg (by omega), if_neg (by omega)]
  have hI : putI s = idS s := if_neg hb
  rw [hE, hI]
  cases hh : hasX l (idS s) with
  | true =>
   refine (Put_has h s (by omega) (by omega) hh).mono ?_
   rintro e w' ⟨rfl, hw⟩
   refine ⟨rfl, ⟨n, ?_⟩, Kp.of_below hw⟩
   unfold putX
   rw [if_pos (Or.inr (Or.inr hh))]
   exact (h.below hw).mono (by omega)
  | false =>
   refine (Put_new h s (by omega) (by omega) hh hno hi).mono ?_
   rintro e w' ⟨rfl, hw, hk⟩
   refine ⟨rfl, ⟨n + 2, ?_⟩, hk⟩
   unfold putX
   rw [if_neg (fun h => by rcases h with h | h | h; exact hb (Or.inl h); exact hb (Or.inr h); rw [hh] at h; cases h)]
   exact hw
end Go.Proofs.YtdeakccaecphlaaDoor.Q
