/- The document's disk: its calls. -/
import Derived.Outline
import Derived.Test.YtabngibognlmoaaDr0
import Derived.Test.YtabngibognlmoaaQx11
import Derived.Test.YtabngibognlmoaaQx14
import Derived.Test.YtabngibognlmoaaQx15
namespace Go.Proofs.Ytabngibognlmoaa.Q
open Go.Maps Go.WideShapes Go.WideMaps Go.RowKit Go.Proofs.YtabngibognlmoaaW.PrintWords Go.Proofs.YtabngibognlmoaaW.PrintLast Go.Proofs.YtabngibognlmoaaW.PrintMore
set_option linter.unusedVariables false
set_option linter.unusedSimpArgs false
set_option maxHeartbeats 10000000
set_option maxRecDepth 100000
/-! the document's Fail -/
def failG (keep torn : Int) : Nat → Fs → List Chg → Fs
 | _, l, [] => l
 | i, l, c :: r => if keep ≤ (i : Int) ∧ ((keep < (i : Int) ∧ 0 ≤ keep) ∨ (0 < (i : Int) ∧ keep < 0) ∨ torn ≤ 0 ∨ 1 < c.kind) then l else if keep ≤ (i : Int) then failG keep torn (i + 1) (doC l (tornC c torn)) r else failG keep torn (i + 1) (doC l c) r
theorem failG_stop {keep torn : Int} {i : Nat} (h : (keep < (i : Int) ∧ 0 ≤ keep) ∨ (0 < (i : Int) ∧ keep < 0)) (l : Fs) : ∀ t, failG keep torn i l t = l
 | [] => rfl
 | c :: r => by
  rw [failG, if_pos ⟨by omega, by omega⟩]
theorem failG_at {keep torn : Int} {i : Nat} (h : keep = (i : Int) ∨ (keep < 0 ∧ i = 0)) (l : Fs) (c : Chg) (r : List Chg) (hk : 0 ≤ c.kind) : failG keep torn i l (c :: r) = if 0 < torn ∧ (c.kind = 0 ∨ c.kind = 1) then doC l (tornC c torn) else l := by
 rw [failG]
 by_cases ht : 0 < torn ∧ (c.kind = 0 ∨ c.kind = 1)
 ·rw [if_pos ht, if_neg (by omega), if_pos (by omega)]
  exact failG_stop (by omega) _ _
 ·rw [if_neg ht, if_pos (by omega)]
theorem failG_some {m : Nat} {torn : Int} : ∀ (t : List Chg) (i : Nat) (l : Fs), i ≤ m → (∀ c ∈ t, 0 ≤ c.kind) → failG (m : Int) torn i l t = match t[m - i]? with
  | some c => if 0 < torn ∧ (c.kind = 0 ∨ c.kind = 1) then doC ((t.take (m - i)).foldl doC l) (tornC c torn) else (t.take (m - i)).foldl doC l
  | none => (t.take (m - i)).foldl doC l
 | [], i, l, _, _ => by
  rw [List.take_nil, List.getElem?_nil]
  rfl
 | c :: r, i, l, hi, hk => by
  by_cases e : i = m
  ·subst e
   rw [Nat.sub_self, failG_at (Or.inl rfl) l c r (hk c (List.mem_cons_self ..))]
   rfl
  ·rw [failG, if_neg (by omega), if_neg (by omega), failG_some r (i + 1) (doC l c) (by omega) (fun x hx => hk x (List.mem_cons_of_mem _ hx))]
   rw [show m - i = m - (i + 1) + 1 by omega, List.getElem?_cons_succ, List.take_succ_cons, List.foldl_cons]
theorem failG_is (st : DK) (keep torn : Int) (hk : ∀ c ∈ st.wait, 0 ≤ c.kind) : failG keep torn 0 st.sure st.wait = failF st keep torn := by
 by_cases h0 : keep ≤ 0
 ·have hc : clampK keep st.wait.length = 0 := by unfold clampK; omega
  unfold failF
  rw [hc]
  cases hw : st.wait with
  | nil => rfl
  | cons c r => 
   rw [failG_at (by omega) _ _ _ (hk c (by rw [hw]; exact List.mem_cons_self ..))]
   rfl
 ·obtain ⟨m, rfl⟩ := Int.eq_ofNat_of_zero_le (show 0 ≤ keep by omega)
  have h1 := failG_some (torn := torn) (m := m) st.wait 0 st.sure (Nat.zero_le _) hk
  rw [Nat.sub_zero] at h1
  have hc : clampK (m : Int) st.wait.length = min m st.wait.length := by unfold clampK; omega
  show failG (m : Int) torn 0 st.sure st.wait = _
  rw [h1]
  unfold failF
  show _ = (match st.wait[clampK (m : Int) st.wait.length]? with
   | some c => if 0 < torn ∧ (c.kind = 0 ∨ c.kind = 1) then doC ((st.wait.take (clampK (m : Int) st.wait.length)).foldl doC st.sure) (tornC c torn) else (st.wait.take (clampK (m : Int) st.wait.length)).foldl doC st.sure
   | none => (st.wait.take (clampK (m : Int) st.wait.length)).foldl doC st.sure)
  rw [hc]
  by_cases hm : m ≤ st.wait.length
  ·rw [Nat.min_eq_left hm]
  ·rw [Nat.min_eq_right (by omega), List.getElem?_eq_none (show st.wait.length ≤ m by omega), List.getElem?_eq_none (Nat.le_refl _), List.take_of_length_le (show st.wait.length ≤ m by omega), List.take_of_length_le (Nat.le_refl _)]
theorem mnD (a b : Int) : mn a b = min a b := by
 unfold mn
 split <;> omega
theorem fail_go (W : List S86) (n : Int) (fl : List S90) (rm keep torn : Int) (hW : W.length ≤ 1000000) : ∀ (t : List S86) (i : Nat) (l : Fs), W.drop i = t → i ≤ W.length → Rises l → Valid l (t.map nrm) → (∀ r ∈ t, NmC (nrm r)) → l.length + t.length ≤ 1000000 →
  Ev (fun k => stowageref04_Disk_Fail.l0 k keep torn (i : Int) (filesL l) W n false fl rm) (filesL (failG keep torn i l (t.map nrm)), [], n, true, fl, rm)
 | [], i, l, hd, hi, _, _, _, _ => by
  have : W.length ≤ i := by have := congrArg List.length hd; rw [List.length_drop] at this; simp at this; omega
  exact Ev.step (f := fun _ => some (filesL l, [], n, true, fl, rm)) (fun k => by rw [stowageref04_Disk_Fail.l0, if_neg (by omega)]) (Ev.now _)
 | r :: t, i, l, hd, hi, hr, hv, hn, hl => by
  have hlt : i < W.length := by have := congrArg List.length hd; rw [List.length_drop] at this; simp at this; omega
  have hd2 : W.drop (i + 1) = t := by rw [drop_cons hlt] at hd; exact (List.cons.inj hd).2
  have hr0 : W[i]? = some r := by rw [drop_cons hlt] at hd; rw [List.getElem?_eq_getElem hlt, (List.cons.inj hd).1]
  have hrd := rd_chg hr0
  rw [List.length_cons] at hl
  have hnr := hn r (List.mem_cons_self ..)
  have hnt := fun x hx => hn x (List.mem_cons_of_mem r hx)
  have hj : ∀ x : Bool, x = decide (keep ≤ (i : Int) ∧ ((keep < (i : Int) ∧ 0 ≤ keep) ∨ (0 < (i : Int) ∧ keep < 0) ∨ torn ≤ 0 ∨ 1 < r.f0)) →
    Ev (fun k => stowageref04_Disk_Fail.j1 k keep torn (i : Int) x (filesL l) W n false fl rm r.f0 r.f1 r.f2 r.f3 r.f4) (filesL (failG keep torn i l ((r :: t).map nrm)), [], n, true, fl, rm) := by
   intro x hx
   rw [List.map_cons, failG]
   by_cases hc : keep ≤ (i : Int) ∧ ((keep < (i : Int) ∧ 0 ≤ keep) ∨ (0 < (i : Int) ∧ keep < 0) ∨ torn ≤ 0 ∨ 1 < r.f0)
   ·rw [if_pos (show keep ≤ (i : Int) ∧ ((keep < (i : Int) ∧ 0 ≤ keep) ∨ (0 < (i : Int) ∧ keep < 0) ∨ torn ≤ 0 ∨ 1 < (nrm r).kind) from hc)]
    rw [decide_eq_true hc] at hx
    subst hx
    exact Ev.step (f := fun _ => some (filesL l, [], n, true, fl, rm)) (fun k => by rw [stowageref04_Disk_Fail.j1, if_pos rfl]) (Ev.now _)
   ·rw [if_neg (show ¬ (keep ≤ (i : Int) ∧ ((keep < (i : Int) ∧ 0 ≤ keep) ∨ (0 < (i : Int) ∧ keep < 0) ∨ torn ≤ 0 ∨ 1 < (nrm r).kind)) from hc)]
    rw [decide_eq_false hc] at hx
    subst hx
    by_cases hk : keep ≤ (i : Int)
    ·rw [if_pos hk]
     have h01 : 0 < torn ∧ r.f0 ≤ 1 := by omega
     have hkk : (nrm r).kind = 0 ∨ (nrm r).kind = 1 := by have := hv.1.kind; show r.f0 = 0 ∨ r.f0 = 1; have h2 : 0 ≤ r.f0 := this.1; omega
     have hs : (nrm r).s = r.f3 := by show (if r.f0 ≤ 1 then r.f3 else _) = _; rw [if_pos h01.2]
     have hl2 := doC_len l (tornC (nrm r) torn)
     have hgo := failG_stop (torn := torn) (i := i + 1) (keep := keep) (by omega) (doC l (tornC (nrm r) torn)) (t.map nrm)
     have hok := okC_torn (torn := torn) hv.1 hkk
     have hts : (tornC (nrm r) torn).s = r.f3.extract 0 (min torn (r.f3.size : Int)).toNat := by unfold tornC; rw [hs]
     have hdo : Ev (fun k => stowageref04_Do.f k (filesL l) r.f0 r.f1 r.f2 (r.f3.extract 0 (mn torn (r.f3.size : Int)).toNat) r.f4) (filesL (doC l (tornC (nrm r) torn))) :=
      do_ev (c := tornC (nrm r) torn) hr (by omega) hok (fun e => (hnr.dest e).2) (fun e => by have : r.f0 = 2 := e; omega) (fun e => by rw [hts, mnD]) (fun e => by have : r.f0 = 4 := e; omega)
     have hend : Ev (fun k => stowageref04_Disk_Fail.l0 k keep torn ((i + 1 : Nat) : Int) (filesL (doC l (tornC (nrm r) torn))) W n false fl rm) (filesL (failG keep torn (i + 1) (doC l (tornC (nrm r) torn)) (t.map nrm)), [], n, true, fl, rm) := by
      rw [hgo]
      by_cases hlt2 : i + 1 < W.length
      ·obtain ⟨y, hy⟩ : ∃ y, y = rd_T86 W ((i + 1 : Nat) : Int) := ⟨_, rfl⟩
       refine Ev.step (f := fun k => stowageref04_Disk_Fail.j1 k keep torn ((i + 1 : Nat) : Int) true (filesL (doC l (tornC (nrm r) torn))) W n false fl rm y.f0 y.f1 y.f2 y.f3 y.f4) (fun k => ?_) (Ev.step (f := fun _ => some (filesL (doC l (tornC (nrm r) torn)), [], n, true, fl, rm)) (fun k => by rw [stowageref04_Disk_Fail.j1, if_pos rfl]) (Ev.now _))
       rw [stowageref04_Disk_Fail.l0, if_pos (by omega), if_pos (by omega), if_pos (by omega), ← hy]
       by_cases hk1 : ((i + 1 : Nat) : Int) > keep
       ·rw [if_pos hk1]
        by_cases hk2 : keep ≥ 0
        ·rw [if_pos hk2]
        ·rw [if_neg hk2, if_pos (by omega), if_pos (by omega)]
       ·omega
      ·exact Ev.step (f := fun _ => some (filesL (doC l (tornC (nrm r) torn)), [], n, true, fl, rm)) (fun k => by rw [stowageref04_Disk_Fail.l0, if_neg (by omega)]) (Ev.now _)
     refine Ev.step (f := fun k => (stowageref04_Do.f k (filesL l) r.f0 r.f1 r.f2 (r.f3.extract 0 (mn torn (r.f3.size : Int)).toNat) r.f4).bind fun u => stowageref04_Disk_Fail.l0 k keep torn ((i + 1 : Nat) : Int) u W n false fl rm) (fun k => ?_) (Ev.bind hdo hend)
     rw [stowageref04_Disk_Fail.j1, if_neg (by simp), if_pos (by omega), if_pos (by rw [mnD]; omega), if_pos (by rw [mnD]; omega), w1n i (by omega)]
    ·rw [if_neg hk]
     have hl2 := doC_len l (nrm r)
     have ih := fail_go W n fl rm keep torn hW t (i + 1) (doC l (nrm r)) hd2 (by omega) (doC_rises _ hr) hv.2 hnt (by omega)
     refine Ev.step (f := fun k => (stowageref04_Do.f k (filesL l) r.f0 r.f1 r.f2 r.f3 r.f4).bind fun u => stowageref04_Disk_Fail.l0 k keep torn ((i + 1 : Nat) : Int) u W n false fl rm) (fun k => ?_) (Ev.bind (do_nrm hr (by omega) r hv.1 hnr) ih)
     rw [stowageref04_Disk_Fail.j1, if_neg (by simp), if_neg (by omega), w1n i (by omega)]
  refine Ev.step (f := fun k => stowageref04_Disk_Fail.j1 k keep torn (i : Int) (decide (keep ≤ (i : Int) ∧ ((keep < (i : Int) ∧ 0 ≤ keep) ∨ (0 < (i : Int) ∧ keep < 0) ∨ torn ≤ 0 ∨ 1 < r.f0))) (filesL l) W n false fl rm r.f0 r.f1 r.f2 r.f3 r.f4) (fun k => ?_) (hj _ rfl)
  rw [stowageref04_Disk_Fail.l0, if_pos (by omega), if_pos (by omega), hrd]
  have hT : ∀ p : Prop, [Decidable p] → p → decide p = true := fun p _ h => decide_eq_true h
  by_cases a1 : keep ≤ (i : Int)
  ·rw [if_pos (show (i : Int) ≥ keep from a1)]
   by_cases a2 : (i : Int) > keep
   ·rw [if_pos a2]
    by_cases a3 : keep ≥ 0
    ·rw [if_pos a3, decide_eq_true (by omega)]
    ·rw [if_neg a3]
     by_cases a4 : (i : Int) > 0
     ·rw [if_pos a4, if_pos (by omega), decide_eq_true (by omega)]
     ·rw [if_neg a4]
      by_cases a5 : torn ≤ 0
      ·rw [if_pos a5, decide_eq_true (by omega)]
      ·rw [if_neg a5]
       congr 1
       exact decide_eq_decide.2 (by omega)
   ·rw [if_neg a2]
    by_cases a4 : (i : Int) > 0
    ·rw [if_pos a4, if_neg (by omega)]
     by_cases a5 : torn ≤ 0
     ·rw [if_pos a5, decide_eq_true (by omega)]
     ·rw [if_neg a5]
      congr 1
      exact decide_eq_decide.2 (by omega)
    ·rw [if_neg a4]
     by_cases a5 : torn ≤ 0
     ·rw [if_pos a5, decide_eq_true (by omega)]
     ·rw [if_neg a5]
      congr 1
      exact decide_eq_decide.2 (by omega)
  ·rw [if_neg (show ¬ (i : Int) ≥ keep from a1), decide_eq_false (by omega)]
theorem valid_kind : ∀ {ws : List Chg} {l : Fs}, Valid l ws → ∀ c ∈ ws, 0 ≤ c.kind
 | [], _, _, _, h => by cases h
 | a :: r, l, hv, c, h => by
  rcases List.mem_cons.1 h with rfl | h
  ·exact hv.1.kind.1
  ·exact valid_kind hv.2 c h
theorem rfail_ev (W : List S86) (st : DK) (hs : st.wait = W.map nrm) (hr : Rises st.sure) (hv : Valid st.sure st.wait) (hn : ∀ c ∈ st.wait, NmC c) (hl : st.sure.length + st.wait.length ≤ 1000000) (n : Int) (fl : List S90) (rm keep torn : Int) :
  Ev (fun k => stowageref04_Disk_Fail.f k (filesL st.sure) W n false fl rm keep torn) (filesL (failF st keep torn), [], n, true, fl, rm) := by
 have hk := valid_kind hv
 have e := failG_is st keep torn hk
 have hlw : W.length = st.wait.length := by rw [hs, List.length_map]
 rw [← e]
 rw [hs] at hv hn ⊢
 exact fail_go W n fl rm keep torn (by omega) W 0 st.sure rfl (Nat.zero_le _) hr hv (fun r hr => hn _ (List.mem_map_of_mem hr)) (by omega)
/-! the document's Read, Wrong -/
theorem rread_ev {i : Nat} {st : DK} {W : List S86} {rm : Int} (h : RelD i st W rm) (hi : i ≤ 1000) (n : Int) (fl : List S90) (nm : ByteArray) (hs : nm.size ≤ 9223372036854775807) :
  Ev (fun k => stowageref04_Disk_Read.f k (filesL st.sure) W n st.down fl rm nm) (readS st nm, readE st nm) := by
 unfold stowageref04_Disk_Read.f readS readE askE
 by_cases hd : st.down = true
 ·simp only [if_pos hd]
  exact Ev.now _
 ·simp only [if_neg hd, List.all_cons, List.all_nil, Bool.and_true]
  refine Ev.bind (name_ref nm hs) ?_
  cases hn : nameS nm with
  | false => simp only [Bool.false_eq_true, if_false]; exact Ev.now _
  | true =>
   simp only [if_true]
   refine Ev.bind (now_ev h hi n st.down fl) ?_
   have hl := h.gp.nowLen
   refine Ev.bind (find_ev st.now h.gp.nowRis (by omega) nm) ?_
   cases hh : hasF st.now nm with
   | true =>
    obtain ⟨p, h1, _, h3⟩ := getF_pos h.gp.nowRis hh
    have h2 : posF st.now nm < st.now.length := (List.getElem?_eq_some_iff.1 h1).1
    have e1 : (0 : Int) ≤ (posF st.now nm : Int) := by omega
    have e2 : ((posF st.now nm : Nat) : Int) < ((filesL st.now).length : Int) := by rw [filesL_len]; omega
    simp only [if_true, if_pos e1, if_pos e2, rd_files h1, h3]
    exact Ev.now _
   | false =>
    simp only [Bool.false_eq_true, if_false]
    exact Ev.now _
def wrongK (st : DK) (k : Int) (a b s : ByteArray) (n : Int) : Int :=
 if k = 0 then (if askE st.down [a] = 0 then (if roomE st 0 s.size = true then 22 else 0) else askE st.down [a])
 else if k = 1 then (if askE st.down [a] = 0 then (if roomE st (getF st.now a).size s.size = true then 22 else 0) else askE st.down [a])
 else if k = 2 then (if askE st.down [a, b] = 0 then (if hasF st.now a = true then (if a = b then 1 else 0) else 4) else askE st.down [a, b])
 else if k = 3 then (if askE st.down [a] = 0 then (if hasF st.now a = true then 0 else 4) else askE st.down [a])
 else (if askE st.down [a] = 0 then (if hasF st.now a = true then (if 0 ≤ n ∧ n ≤ ((getF st.now a).size : Int) then 0 else 1) else 4) else askE st.down [a])
theorem callK_wrong (st : DK) {k : Int} (hk : 0 ≤ k ∧ k ≤ 4) (a b s : ByteArray) (n : Int) : callK st k a b s n = if wrongK st k a b s n = 0 then changeK st (nrm ⟨k, a, b, s, n⟩) else (st, wrongK st k a b s n) := by
 unfold callK wrongK
 by_cases h0 : k = 0
 ·subst h0
  rw [if_pos rfl, if_pos rfl]
  unfold appendK
  split
  ·split <;> rfl
  ·rfl
 rw [if_neg h0, if_neg h0]
 by_cases h1 : k = 1
 ·subst h1
  rw [if_pos rfl, if_pos rfl]
  unfold writeK
  split
  ·split <;> rfl
  ·rfl
 rw [if_neg h1, if_neg h1]
 by_cases h2 : k = 2
 ·subst h2
  rw [if_pos rfl, if_pos rfl]
  unfold moveK
  split
  ·split
   ·split <;> rfl
   ·rfl
  ·rfl
 rw [if_neg h2, if_neg h2]
 by_cases h3 : k = 3
 ·subst h3
  rw [if_pos rfl, if_pos rfl]
  unfold removeK
  split
  ·split <;> rfl
  ·rfl
 rw [if_neg h3, if_neg h3]
 obtain rfl : k = 4 := by omega
 unfold cutK
 split
 ·split
  ·split <;> rfl
  ·rfl
 ·rfl
theorem wrong_tail (x7 : Bool) (x8 : Int) (x67 : Bool) (k : Int) (a b s : ByteArray) (n : Int) : Ev (fun q => stowageref04_Disk_Wrong.j3 q x7 x8 x67 k a b s n) (if x67 = true then 22 else if 2 ≤ k ∧ x7 = false then 4 else if k = 2 ∧ a = b then 1 else if k = 4 ∧ (n < 0 ∨ n > x8) then 1 else 0) := by
 have h5 : ∀ x : Bool, Ev (fun q => stowageref04_Disk_Wrong.j5 q x8 x k a b s n) (if x = true then 1 else if k = 4 ∧ (n < 0 ∨ n > x8) then 1 else 0) := fun x =>
  Ev.step (f := fun _ => some (if x = true then 1 else if k = 4 ∧ (n < 0 ∨ n > x8) then 1 else 0)) (fun q => by
   rw [stowageref04_Disk_Wrong.j5]
   by_cases e0 : x = true
   ·rw [if_pos e0, if_pos e0]
   rw [if_neg e0, if_neg e0]
   by_cases e1 : k = 4
   ·rw [if_pos e1]
    by_cases e2 : n < 0
    ·rw [if_pos e2, if_pos ⟨e1, Or.inl e2⟩]
    rw [if_neg e2]
    by_cases e3 : n > x8
    ·rw [if_pos e3, if_pos ⟨e1, Or.inr e3⟩]
    rw [if_neg e3, if_neg (by omega)]
   ·rw [if_neg e1, if_neg (by omega)]) (Ev.now _)
 have h4 : ∀ x : Bool, Ev (fun q => stowageref04_Disk_Wrong.j4 q x8 x k a b s n) (if x = true then 4 else if k = 2 ∧ a = b then 1 else if k = 4 ∧ (n < 0 ∨ n > x8) then 1 else 0) := fun x => by
  by_cases e0 : x = true
  ·rw [if_pos e0]
   exact Ev.step (f := fun _ => some 4) (fun q => by rw [stowageref04_Disk_Wrong.j4, if_pos e0]) (Ev.now _)
  rw [if_neg e0]
  by_cases e1 : k = 2
  ·by_cases e2 : a = b
   ·rw [if_pos ⟨e1, e2⟩]
    refine Ev.step (fun q => ?_) (h5 true)
    rw [stowageref04_Disk_Wrong.j4, if_neg e0, if_pos e1, eq_sameN, sameN_iff.2 e2]
   ·rw [if_neg (fun h => e2 h.2)]
    refine Ev.step (fun q => ?_) (h5 false)
    rw [stowageref04_Disk_Wrong.j4, if_neg e0, if_pos e1, eq_sameN, sameN_ne e2]
  ·rw [if_neg (fun h => e1 h.1)]
   refine Ev.step (fun q => ?_) (h5 false)
   rw [stowageref04_Disk_Wrong.j4, if_neg e0, if_neg e1]
 by_cases e0 : x67 = true
 ·rw [if_pos e0]
  exact Ev.step (f := fun _ => some 22) (fun q => by rw [stowageref04_Disk_Wrong.j3, if_pos e0]) (Ev.now _)
 rw [if_neg e0]
 by_cases e1 : 2 ≤ k
 ·cases x7 with
  | false =>
   rw [if_pos ⟨e1, rfl⟩]
   refine Ev.step (fun q => ?_) (h4 true)
   rw [stowageref04_Disk_Wrong.j3, if_neg e0, if_pos (show k ≥ 2 from e1)]
   rfl
  | true =>
   rw [if_neg (fun h => by cases h.2)]
   refine Ev.step (fun q => ?_) (h4 false)
   rw [stowageref04_Disk_Wrong.j3, if_neg e0, if_pos (show k ≥ 2 from e1)]
   rfl
 ·rw [if_neg (fun h => e1 h.1)]
  refine Ev.step (fun q => ?_) (h4 false)
  rw [stowageref04_Disk_Wrong.j3, if_neg e0, if_neg (show ¬ k ≥ 2 from e1)]
theorem roomE_is {i : Nat} {st : DK} {W : List S86} {rm : Int} (h : RelD i st W rm) (was n : Nat) : roomE st was n = decide (0 ≤ rm ∧ was < n ∧ rm < (totF st.now : Int) - was + n) := by
 unfold roomE
 have := h.room
 exact decide_eq_decide.2 (by omega)
theorem wrong_ev {i : Nat} {st : DK} {W : List S86} {rm : Int} (h : RelD i st W rm) (hi : i ≤ 1000) (n0 : Int) (fl : List S90) {k : Int} (hk : 0 ≤ k ∧ k ≤ 4) (a b s : ByteArray) (n : Int) (ha : a.size ≤ BM) (hb : b.size ≤ BM) (hs : s.size ≤ BM) :
  Ev (fun q => stowageref04_Disk_Wrong.f q (filesL st.sure) W n0 st.down fl rm k a b s n) (wrongK st k a b s n) := by
 have hsm := h.gp.small hi
 have hgl := getF_le st.now a
 have hl := h.gp.nowLen
 have hroom := roomE_is h
 -- behind the names
 have h2 : ∀ (x42 : Bool), Ev (fun q => stowageref04_Disk_Wrong.j2 q (hasF st.now a) ((getF st.now a).size : Int) x42 (filesL st.sure) W n0 st.down fl rm k a b s n)
   (if x42 = true then 22 else if k = 1 ∧ roomE st (getF st.now a).size s.size = true then 22 else if 2 ≤ k ∧ hasF st.now a = false then 4 else if k = 2 ∧ a = b then 1 else if k = 4 ∧ (n < 0 ∨ n > ((getF st.now a).size : Int)) then 1 else 0) := by
  intro x42
  by_cases e0 : x42 = true
  ·rw [if_pos e0]
   exact Ev.step (f := fun _ => some 22) (fun q => by rw [stowageref04_Disk_Wrong.j2, if_pos e0]) (Ev.now _)
  rw [if_neg e0]
  have ht := fun x67 => wrong_tail (hasF st.now a) ((getF st.now a).size : Int) x67 k a b s n
  by_cases e1 : k = 1
  ·by_cases e2 : (s.size : Int) > ((getF st.now a).size : Int)
   ·by_cases e3 : rm ≥ 0
    ·have hu : roomE st (getF st.now a).size s.size = decide ((wrap64 ((wrap64 ((totF st.now : Int) - ((getF st.now a).size : Int))) + (s.size : Int))) > rm) := by
      simp only [BM] at hs
      rw [hroom, IntWalk.wrap64_in ((totF st.now : Int) - ((getF st.now a).size : Int)) (by omega), IntWalk.wrap64_in _ (by omega)]
      exact decide_eq_decide.2 (by omega)
     have hx := ht (roomE st (getF st.now a).size s.size)
     have hfin : (if (roomE st (getF st.now a).size s.size) = true then (22 : Int) else if 2 ≤ k ∧ hasF st.now a = false then 4 else if k = 2 ∧ a = b then 1 else if k = 4 ∧ (n < 0 ∨ n > ((getF st.now a).size : Int)) then 1 else 0) = (if k = 1 ∧ roomE st (getF st.now a).size s.size = true then 22 else if 2 ≤ k ∧ hasF st.now a = false then 4 else if k = 2 ∧ a = b then 1 else if k = 4 ∧ (n < 0 ∨ n > ((getF st.now a).size : Int)) then 1 else 0) := by
      cases roomE st (getF st.now a).size s.size with
      | true => rw [if_pos rfl, if_pos ⟨e1, rfl⟩]
      | false => rw [if_neg (c := false = true) (by simp), if_neg (c := k = 1 ∧ false = true) (by simp)]
     rw [hfin] at hx
     rw [hu] at hx
     refine Ev.step (f := fun q => (stowageref04_Disk_Used.f q (filesL st.sure) W n0 st.down fl rm).bind fun t => stowageref04_Disk_Wrong.j3 q (hasF st.now a) ((getF st.now a).size : Int) (decide ((wrap64 ((wrap64 (t - ((getF st.now a).size : Int))) + (s.size : Int))) > rm)) k a b s n) (fun q => ?_) (Ev.bind (used_ev h hi n0 st.down fl) ?_)
     ·rw [stowageref04_Disk_Wrong.j2, if_neg e0, if_pos e1, if_pos e2, if_pos e3]
     ·rw [hu]
      exact hx
    ·have hu : roomE st (getF st.now a).size s.size = false := by rw [hroom]; exact decide_eq_false (by omega)
     rw [hu, if_neg (by simp)]
     have hx := ht false
     rw [if_neg (by simp)] at hx
     refine Ev.step (fun q => ?_) hx
     rw [stowageref04_Disk_Wrong.j2, if_neg e0, if_pos e1, if_pos e2, if_neg e3]
   ·have hu : roomE st (getF st.now a).size s.size = false := by rw [hroom]; exact decide_eq_false (by omega)
    rw [hu, if_neg (by simp)]
    have hx := ht false
    rw [if_neg (by simp)] at hx
    refine Ev.step (fun q => ?_) hx
    rw [stowageref04_Disk_Wrong.j2, if_neg e0, if_pos e1, if_neg e2]
  ·rw [if_neg (fun h => e1 h.1)]
   have hx := ht false
   rw [if_neg (by simp)] at hx
   refine Ev.step (fun q => ?_) hx
   rw [stowageref04_Disk_Wrong.j2, if_neg e0, if_neg e1]
 have h1 : Ev (fun q => stowageref04_Disk_Wrong.j1 q (hasF st.now a) ((getF st.now a).size : Int) (filesL st.sure) W n0 st.down fl rm k a b s n)
   (if k = 0 ∧ roomE st 0 s.size = true then 22 else if k = 1 ∧ roomE st (getF st.now a).size s.size = true then 22 else if 2 ≤ k ∧ hasF st.now a = false then 4 else if k = 2 ∧ a = b then 1 else if k = 4 ∧ (n < 0 ∨ n > ((getF st.now a).size : Int)) then 1 else 0) := by
  by_cases e1 : k = 0
  ·by_cases e2 : s.toList = ([] : List UInt8)
   ·have e3 : s.size = 0 := by
     rw [ByteArray.toList_eq] at e2
     show s.data.size = 0
     rw [← Array.length_toList, e2]; rfl
    have hu : roomE st 0 s.size = false := by rw [hroom]; exact decide_eq_false (by omega)
    rw [hu, if_neg (by simp)]
    have hx := h2 false
    rw [if_neg (by simp)] at hx
    refine Ev.step (fun q => ?_) hx
    rw [stowageref04_Disk_Wrong.j1, if_pos e1, if_pos e2]
   ·have e3 : 0 < s.size := by
     rcases Nat.eq_zero_or_pos s.size with h0 | h0
     ·exact absurd (by rw [ByteArray.toList_eq]; exact List.eq_nil_of_length_eq_zero (by rw [Array.length_toList]; exact h0)) e2
     ·exact h0
    by_cases e4 : rm ≥ 0
    ·have hu : roomE st 0 s.size = decide ((wrap64 ((totF st.now : Int) + (s.size : Int))) > rm) := by
      simp only [BM] at hs
      rw [hroom, IntWalk.wrap64_in _ (by omega)]
      exact decide_eq_decide.2 (by omega)
     have hx := h2 (roomE st 0 s.size)
     have hfin : (if (roomE st 0 s.size) = true then (22 : Int) else if k = 1 ∧ roomE st (getF st.now a).size s.size = true then 22 else if 2 ≤ k ∧ hasF st.now a = false then 4 else if k = 2 ∧ a = b then 1 else if k = 4 ∧ (n < 0 ∨ n > ((getF st.now a).size : Int)) then 1 else 0) = (if k = 0 ∧ roomE st 0 s.size = true then 22 else if k = 1 ∧ roomE st (getF st.now a).size s.size = true then 22 else if 2 ≤ k ∧ hasF st.now a = false then 4 else if k = 2 ∧ a = b then 1 else if k = 4 ∧ (n < 0 ∨ n > ((getF st.now a).size : Int)) then 1 else 0) := by
      cases roomE st 0 s.size with
      | true => rw [if_pos rfl, if_pos ⟨e1, rfl⟩]
      | false => rw [if_neg (c := false = true) (by simp), if_neg (c := k = 0 ∧ false = true) (by simp)]
     rw [hfin] at hx
     refine Ev.step (f := fun q => (stowageref04_Disk_Used.f q (filesL st.sure) W n0 st.down fl rm).bind fun t => stowageref04_Disk_Wrong.j2 q (hasF st.now a) ((getF st.now a).size : Int) (decide ((wrap64 (t + (s.size : Int))) > rm)) (filesL st.sure) W n0 st.down fl rm k a b s n) (fun q => ?_) (Ev.bind (used_ev h hi n0 st.down fl) ?_)
     ·rw [stowageref04_Disk_Wrong.j1, if_pos e1, if_neg e2, if_pos e4]
     ·rw [← hu]
      exact hx
    ·have hu : roomE st 0 s.size = false := by rw [hroom]; exact decide_eq_false (by omega)
     rw [hu, if_neg (by simp)]
     have hx := h2 false
     rw [if_neg (by simp)] at hx
     refine Ev.step (fun q => ?_) hx
     rw [stowageref04_Disk_Wrong.j1, if_pos e1, if_neg e2, if_neg e4]
  ·rw [if_neg (fun h => e1 h.1)]
   have hx := h2 false
   rw [if_neg (by simp)] at hx
   refine Ev.step (fun q => ?_) hx
   rw [stowageref04_Disk_Wrong.j1, if_neg e1]
 have h0 : ∀ x : Bool, Ev (fun q => stowageref04_Disk_Wrong.j0 q x (filesL st.sure) W n0 st.down fl rm k a b s n)
   (if x = true then 20 else if k = 0 ∧ roomE st 0 s.size = true then 22 else if k = 1 ∧ roomE st (getF st.now a).size s.size = true then 22 else if 2 ≤ k ∧ hasF st.now a = false then 4 else if k = 2 ∧ a = b then 1 else if k = 4 ∧ (n < 0 ∨ n > ((getF st.now a).size : Int)) then 1 else 0) := by
  intro x
  by_cases e0 : x = true
  ·rw [if_pos e0]
   exact Ev.step (f := fun _ => some 20) (fun q => by rw [stowageref04_Disk_Wrong.j0, if_pos e0]) (Ev.now _)
  rw [if_neg e0]
  refine Ev.step (f := fun q => (stowageref04_Disk_Now.f q (filesL st.sure) W n0 st.down fl rm).bind fun t => (stowageref04_Find.f q t a).bind fun p => if p.2 = true then (if 0 ≤ p.1 then (if p.1 < (t.length : Int) then stowageref04_Disk_Wrong.j1 q p.2 (((rd_T48 t p.1).f1).size : Int) (filesL st.sure) W n0 st.down fl rm k a b s n else none) else none) else stowageref04_Disk_Wrong.j1 q p.2 0 (filesL st.sure) W n0 st.down fl rm k a b s n) (fun q => ?_) (Ev.bind (now_ev h hi n0 st.down fl) (Ev.bind (find_ev st.now h.gp.nowRis (by omega) a) ?_))
  ·rw [stowageref04_Disk_Wrong.j0, if_neg e0]
  cases hh : hasF st.now a with
  | true =>
   obtain ⟨p, h1', _, h3⟩ := getF_pos h.gp.nowRis hh
   have h2' : posF st.now a < st.now.length := (List.getElem?_eq_some_iff.1 h1').1
   rw [hh] at h1
   refine Ev.congr (fun q => ?_) h1
   rw [if_pos rfl, if_pos (by omega), if_pos (by rw [filesL_len]; omega), rd_files h1', h3]
  | false =>
   rw [hh, getF_none hh] at h1
   rw [getF_none hh]
   refine Ev.congr (fun q => ?_) h1
   rw [if_neg (by simp)]
   rfl
 unfold stowageref04_Disk_Wrong.f
 by_cases hd : st.down = true
 ·have e : wrongK st k a b s n = 21 := by
   unfold wrongK askE
   simp only [if_pos hd]
   repeat' split
   all_goals first | rfl | omega
  rw [e]
  refine Ev.congr (fun q => by rw [if_pos hd]) (Ev.now _)
 ·refine Ev.congr (fun q => by rw [if_neg hd]) ?_
  refine Ev.bind (name_ref a (Nat.le_trans ha (by decide))) ?_
  have hask1 : askE st.down [a] = if nameS a = true then 0 else 20 := by
   unfold askE; rw [if_neg hd, List.all_cons, List.all_nil, Bool.and_true]
  have hask2 : askE st.down [a, b] = if nameS a = true ∧ nameS b = true then 0 else 20 := by
   unfold askE; rw [if_neg hd, List.all_cons, List.all_cons, List.all_nil, Bool.and_true]
   simp only [Bool.and_eq_true]
  cases hna : nameS a with
  | false =>
   have e : wrongK st k a b s n = 20 := by
    unfold wrongK
    rw [hask1, hask2, hna]
    simp
   rw [e]
   have hx := h0 true
   rw [if_pos rfl] at hx
   refine Ev.congr (fun q => ?_) hx
   rw [if_neg (by simp)]
  | true =>
   have hx0 : ∀ q : Nat, (if true = true then (if k = 2 then ((stowageref04_Name.f q b).bind fun t => stowageref04_Disk_Wrong.j0 q (!t) (filesL st.sure) W n0 st.down fl rm k a b s n) else stowageref04_Disk_Wrong.j0 q false (filesL st.sure) W n0 st.down fl rm k a b s n) else stowageref04_Disk_Wrong.j0 q true (filesL st.sure) W n0 st.down fl rm k a b s n) = (if k = 2 then ((stowageref04_Name.f q b).bind fun t => stowageref04_Disk_Wrong.j0 q (!t) (filesL st.sure) W n0 st.down fl rm k a b s n) else stowageref04_Disk_Wrong.j0 q false (filesL st.sure) W n0 st.down fl rm k a b s n) := fun q => if_pos rfl
   refine Ev.congr hx0 ?_
   by_cases e2 : k = 2
   ·refine Ev.congr (fun q => by rw [if_pos e2]) ?_
    refine Ev.bind (name_ref b (Nat.le_trans hb (by decide))) ?_
    have hx := h0 (!nameS b)
    have e : wrongK st k a b s n = (if (!nameS b) = true then 20 else if k = 0 ∧ roomE st 0 s.size = true then 22 else if k = 1 ∧ roomE st (getF st.now a).size s.size = true then 22 else if 2 ≤ k ∧ hasF st.now a = false then 4 else if k = 2 ∧ a = b then 1 else if k = 4 ∧ (n < 0 ∨ n > ((getF st.now a).size : Int)) then 1 else 0) := by
     subst e2
     unfold wrongK
     rw [if_neg (by decide), if_neg (by decide), if_pos rfl, hask2, hna]
     cases nameS b with
     | false => simp
     | true => cases hasF st.now a <;> simp
    rw [e]
    exact hx
   ·refine Ev.congr (fun q => by rw [if_neg e2]) ?_
    have hx := h0 false
    have e : wrongK st k a b s n = (if false = true then 20 else if k = 0 ∧ roomE st 0 s.size = true then 22 else if k = 1 ∧ roomE st (getF st.now a).size s.size = true then 22 else if 2 ≤ k ∧ hasF st.now a = false then 4 else if k = 2 ∧ a = b then 1 else if k = 4 ∧ (n < 0 ∨ n > ((getF st.now a).size : Int)) then 1 else 0) := by
     unfold wrongK
     rw [hask1, hna]
     by_cases k0 : k = 0
     ·subst k0; simp
     by_cases k1 : k = 1
     ·subst k1; simp
     by_cases k3 : k = 3
     ·subst k3; cases hasF st.now a <;> simp
     obtain rfl : k = 4 := by omega
     cases hasF st.now a
     ·simp
     ·simp only [if_true, if_neg (show ¬ ((4 : Int) = 0) by decide), if_neg (show ¬ ((4 : Int) = 1) by decide), if_neg (show ¬ ((4 : Int) = 2) by decide), if_neg (show ¬ ((4 : Int) = 3) by decide)]
      by_cases hc : 0 ≤ n ∧ n ≤ ((getF st.now a).size : Int)
      ·rw [if_pos hc]
       rw [if_neg (c := false = true) (by simp), if_neg (c := (4 : Int) = 0 ∧ roomE st 0 s.size = true) (fun h => absurd h.1 (by decide)), if_neg (c := (4 : Int) = 1 ∧ roomE st (getF st.now a).size s.size = true) (fun h => absurd h.1 (by decide)), if_neg (c := (2 : Int) ≤ 4 ∧ true = false) (fun h => by cases h.2), if_neg (c := (4 : Int) = 2 ∧ a = b) (fun h => absurd h.1 (by decide)), if_neg (c := True ∧ (n < 0 ∨ n > ((getF st.now a).size : Int))) (fun h => by have := h.2; omega)]
      ·rw [if_neg hc]
       rw [if_neg (c := false = true) (by simp), if_neg (c := (4 : Int) = 0 ∧ roomE st 0 s.size = true) (fun h => absurd h.1 (by decide)), if_neg (c := (4 : Int) = 1 ∧ roomE st (getF st.now a).size s.size = true) (fun h => absurd h.1 (by decide)), if_neg (c := (2 : Int) ≤ 4 ∧ true = false) (fun h => by cases h.2), if_neg (c := (4 : Int) = 2 ∧ a = b) (fun h => absurd h.1 (by decide)), if_pos (c := True ∧ (n < 0 ∨ n > ((getF st.now a).size : Int))) ⟨trivial, by omega⟩]
    rw [e]
    exact hx
/-! the document's Make -/
def toFal (x : S90) : Fal := ⟨x.f0, x.f1, x.f2⟩
theorem rd_fal {l : List S90} {i : Nat} {x : S90} (h : l[i]? = some x) : rd_T90 l (i : Int) = x := by
 unfold rd_T90
 rw [Int.toNat_natCast, List.getD_eq_getElem?_getD, h]
 rfl
theorem make_go {st1 : DK} (W0 W1 : List S86) (hW : st1.wait = W1.map nrm) (hr : Rises st1.sure) (hv : Valid st1.sure st1.wait) (hn : ∀ c ∈ st1.wait, NmC c) (hl : st1.sure.length + st1.wait.length ≤ 1000000) (fl : List S90) (hfl : fl.length < 5864062014805) (N rm : Int) (hN : 0 ≤ N ∧ N ≤ 2000) : ∀ (t : List S90) (i : Nat), fl.drop i = t → i ≤ fl.length →
  Ev (fun q => stowageref04_Disk_Make.l0 q W1 (i : Int) (filesL st1.sure) W0 N false fl rm) (match t.findIdx? (fun x => x.f0 == N) with
   | none => (filesL st1.sure, W1, N + 1, false, fl, rm, 0)
   | some m => (filesL (failF st1 (rd_T90 fl ((i + m : Nat) : Int)).f1 (rd_T90 fl ((i + m : Nat) : Int)).f2), [], N, true, fl.eraseIdx (i + m), rm, 21))
 | [], i, hd, hi => by
  have : fl.length ≤ i := by have := congrArg List.length hd; rw [List.length_drop] at this; simp at this; omega
  rw [List.findIdx?_nil]
  exact Ev.step (f := fun _ => some (filesL st1.sure, W1, N + 1, false, fl, rm, 0)) (fun q => by rw [stowageref04_Disk_Make.l0, if_neg (by omega), IntWalk.wrap64_in _ (by omega)]) (Ev.now _)
 | x :: t, i, hd, hi => by
  have hlt : i < fl.length := by have := congrArg List.length hd; rw [List.length_drop] at this; simp at this; omega
  have hd2 : fl.drop (i + 1) = t := by rw [drop_cons hlt] at hd; exact (List.cons.inj hd).2
  have hx0 : fl[i]? = some x := by rw [drop_cons hlt] at hd; rw [List.getElem?_eq_getElem hlt, (List.cons.inj hd).1]
  have hrd := rd_fal hx0
  rw [List.findIdx?_cons]
  by_cases e : x.f0 = N
  ·rw [if_pos (beq_iff_eq.2 e)]
   show Ev _ (filesL (failF st1 (rd_T90 fl ((i + 0 : Nat) : Int)).f1 (rd_T90 fl ((i + 0 : Nat) : Int)).f2), [], N, true, fl.eraseIdx (i + 0), rm, 21)
   rw [Nat.add_zero, hrd, List.eraseIdx_eq_take_drop_succ]
   have hlt1 : (List.take i fl).length = i := by rw [List.length_take]; omega
   refine Ev.step (f := fun q => (stowageref04_Disk_Fail.f q (filesL st1.sure) W1 N false (fl.take i ++ fl.drop (i + 1)) rm x.f1 x.f2).bind fun b => some (b.1, b.2.1, b.2.2.1, b.2.2.2.1, b.2.2.2.2.1, b.2.2.2.2.2, 21)) (fun q => ?_) (Ev.bind (rfail_ev W1 st1 hW hr hv hn hl N (fl.take i ++ fl.drop (i + 1)) rm x.f1 x.f2) (Ev.now _))
   rw [stowageref04_Disk_Make.l0, if_pos (by omega), if_pos (by omega), hrd, if_pos e, Option.bind_some, if_pos (by omega), Int.toNat_natCast, Option.bind_some, if_pos (by rw [List.length_nil, hlt1]; omega), Option.bind_some, w1n i (by omega), if_pos (by omega), if_pos (by omega), Int.toNat_natCast, Option.bind_some, if_pos (by rw [List.nil_append, hlt1, List.length_drop]; omega), List.nil_append]
  ·rw [if_neg (by rw [beq_iff_eq]; exact e)]
   have ih := make_go W0 W1 hW hr hv hn hl fl hfl N rm hN t (i + 1) hd2 (by omega)
   have e2 : (match (t.findIdx? (fun x => x.f0 == N)).map (· + 1) with
     | none => (filesL st1.sure, W1, N + 1, false, fl, rm, (0 : Int))
     | some m => (filesL (failF st1 (rd_T90 fl ((i + m : Nat) : Int)).f1 (rd_T90 fl ((i + m : Nat) : Int)).f2), [], N, true, fl.eraseIdx (i + m), rm, 21)) =
     (match t.findIdx? (fun x => x.f0 == N) with
     | none => (filesL st1.sure, W1, N + 1, false, fl, rm, (0 : Int))
     | some m => (filesL (failF st1 (rd_T90 fl ((i + 1 + m : Nat) : Int)).f1 (rd_T90 fl ((i + 1 + m : Nat) : Int)).f2), [], N, true, fl.eraseIdx (i + 1 + m), rm, 21)) := by
    cases t.findIdx? (fun x => x.f0 == N) with
    | none => rfl
    | some m =>
     show (filesL (failF st1 (rd_T90 fl ((i + (m + 1) : Nat) : Int)).f1 (rd_T90 fl ((i + (m + 1) : Nat) : Int)).f2), [], N, true, fl.eraseIdx (i + (m + 1)), rm, (21 : Int)) = _
     rw [show i + (m + 1) = i + 1 + m by omega]
   rw [e2]
   refine Ev.step (f := fun q => stowageref04_Disk_Make.l0 q W1 ((i + 1 : Nat) : Int) (filesL st1.sure) W0 N false fl rm) (fun q => ?_) ih
   rw [stowageref04_Disk_Make.l0, if_pos (by omega), if_pos (by omega), hrd, if_neg e, w1n i (by omega)]
theorem wrong_zero {i : Nat} {st : DK} (h : GP i st) (hi : i ≤ 1000) {k : Int} (hk : 0 ≤ k ∧ k ≤ 4) {a b s : ByteArray} {n : Int} (ha : a.size ≤ BM) (hb : b.size ≤ BM) (hs : s.size ≤ BM) (hw : wrongK st k a b s n = 0) :
  st.down = false ∧ OkC st.now (nrm ⟨k, a, b, s, n⟩) ∧ NmC (nrm ⟨k, a, b, s, n⟩) ∧ (nrm ⟨k, a, b, s, n⟩).s.size ≤ BM := by
 have hz : (⟨#[]⟩ : ByteArray).size ≤ BM := by decide
 unfold wrongK at hw
 by_cases h0 : k = 0
 ·subst h0
  rw [if_pos rfl] at hw
  by_cases h1 : askE st.down [a] = 0
  ·exact ⟨(askE_one h1).1, h.okc hi (k := 0) (a := a) (b := ⟨#[]⟩) (s := s) (n := 0) (by decide) ha hz hs (fun e => absurd e (by decide)), ⟨(askE_one h1).2, (fun e => absurd (show (0 : Int) = 2 from e) (by decide))⟩, hs⟩
  ·rw [if_neg h1] at hw; exact absurd hw h1
 rw [if_neg h0] at hw
 by_cases h0' : k = 1
 ·subst h0'
  rw [if_pos rfl] at hw
  by_cases h1 : askE st.down [a] = 0
  ·exact ⟨(askE_one h1).1, h.okc hi (k := 1) (a := a) (b := ⟨#[]⟩) (s := s) (n := 0) (by decide) ha hz hs (fun e => absurd e (by decide)), ⟨(askE_one h1).2, (fun e => absurd (show (1 : Int) = 2 from e) (by decide))⟩, hs⟩
  ·rw [if_neg h1] at hw; exact absurd hw h1
 rw [if_neg h0'] at hw
 by_cases h2 : k = 2
 ·subst h2
  rw [if_pos rfl] at hw
  by_cases h1 : askE st.down [a, b] = 0
  ·rw [if_pos h1] at hw
   by_cases h3 : hasF st.now a = true
   ·rw [if_pos h3] at hw
    by_cases h4 : a = b
    ·rw [if_pos h4] at hw; exact absurd hw (by decide)
    ·exact ⟨(askE_two h1).1, h.okc hi (k := 2) (a := a) (b := b) (s := ⟨#[]⟩) (n := 0) (by decide) ha hb hz (fun e => absurd e (by decide)), ⟨(askE_two h1).2.1, fun _ => ⟨(askE_two h1).2.2, h4⟩⟩, hz⟩
   ·rw [if_neg h3] at hw; exact absurd hw (by decide)
  ·rw [if_neg h1] at hw; exact absurd hw h1
 rw [if_neg h2] at hw
 by_cases h3 : k = 3
 ·subst h3
  rw [if_pos rfl] at hw
  by_cases h1 : askE st.down [a] = 0
  ·exact ⟨(askE_one h1).1, h.okc hi (k := 3) (a := a) (b := ⟨#[]⟩) (s := ⟨#[]⟩) (n := 0) (by decide) ha hz hz (fun e => absurd e (by decide)), ⟨(askE_one h1).2, (fun e => absurd (show (3 : Int) = 2 from e) (by decide))⟩, hz⟩
  ·rw [if_neg h1] at hw; exact absurd hw h1
 rw [if_neg h3] at hw
 obtain rfl : k = 4 := by omega
 by_cases h1 : askE st.down [a] = 0
 ·rw [if_pos h1] at hw
  by_cases h3 : hasF st.now a = true
  ·rw [if_pos h3] at hw
   by_cases h4 : 0 ≤ n ∧ n ≤ ((getF st.now a).size : Int)
   ·exact ⟨(askE_one h1).1, h.okc hi (k := 4) (a := a) (b := ⟨#[]⟩) (s := ⟨#[]⟩) (n := n) (by decide) ha hz hz (fun _ => h4), ⟨(askE_one h1).2, (fun e => absurd (show (4 : Int) = 2 from e) (by decide))⟩, hz⟩
   ·rw [if_neg h4] at hw; exact absurd hw (by decide)
  ·rw [if_neg h3] at hw; exact absurd hw (by decide)
 ·rw [if_neg h1] at hw; exact absurd hw h1
/-- the document's disk, with its falls -/
structure RelA (i : Nat) (st : DK) (W : List S86) (fl : List S90) (rm : Int) : Prop where
 rel : RelD i st W rm
 falls : st.falls = fl.map toFal
theorem RelA.mono {i j : Nat} {st : DK} {W : List S86} {fl : List S90} {rm : Int} (h : RelA i st W fl rm) (hij : i ≤ j) : RelA j st W fl rm := ⟨⟨h.rel.gp.mono hij, h.rel.wait, h.rel.room⟩, h.falls⟩
theorem make_ev {i : Nat} {st : DK} {W : List S86} {fl : List S90} {rm : Int} (h : RelA i st W fl rm) (hi : i ≤ 900) {k : Int} (hk : 0 ≤ k ∧ k ≤ 4) {a b s : ByteArray} {n : Int} (ha : a.size ≤ BM) (hb : b.size ≤ BM) (hs : s.size ≤ BM) :
  ∃ W' fl', Ev (fun q => stowageref04_Disk_Make.f q (filesL st.sure) W st.count st.down fl rm k a b s n) (filesL (callK st k a b s n).1.sure, W', (callK st k a b s n).1.count, (callK st k a b s n).1.down, fl', rm, (callK st k a b s n).2) ∧ RelA (i + 1) (callK st k a b s n).1 W' fl' rm := by
 have hg := h.rel.gp.call (by omega) (n := n) hk ha hb hs
 have hwe := wrong_ev h.rel (by omega) st.count fl hk a b s n ha hb hs
 rw [callK_wrong st hk a b s n] at hg ⊢
 by_cases hw : wrongK st k a b s n = 0
 ·rw [if_pos hw] at hg ⊢
  obtain ⟨hup, hok, hnm, hsz⟩ := wrong_zero h.rel.gp (by omega) hk ha hb hs hw
  obtain ⟨r, hr⟩ : ∃ r : S86, r = ⟨k, a, b, s, n⟩ := ⟨_, rfl⟩
  have hadd := h.rel.gp.add hup hok hnm hsz
  rw [← hr] at hg hok hnm hsz hadd ⊢
  have hfal := h.rel.gp.fal
  have hct := h.rel.gp.cnt
  have hflen : fl.length = st.falls.length := by rw [h.falls, List.length_map]
  have hgo := make_go (st1 := { st with wait := st.wait ++ [nrm r] }) W (W ++ [r]) (by show st.wait ++ [nrm r] = _; rw [h.rel.wait, List.map_append]; rfl) h.rel.gp.ris hadd.val hadd.nms (by have := hadd.len; show st.sure.length + (st.wait ++ [nrm r]).length ≤ _; have h2 : (addK st (nrm r)).sure.length + (addK st (nrm r)).wait.length ≤ i + 1 := this; show st.sure.length + (st.wait ++ [nrm r]).length ≤ _; exact Nat.le_trans h2 (by omega)) fl (by omega) st.count rm (by omega) fl 0 rfl (Nat.zero_le _)
  have hmk : ∀ v, Ev (fun q => stowageref04_Disk_Make.l0 q (W ++ [r]) 0 (filesL st.sure) W st.count false fl rm) v → Ev (fun q => stowageref04_Disk_Make.f q (filesL st.sure) W st.count st.down fl rm k a b s n) v := fun v hv => by
   unfold stowageref04_Disk_Make.f
   refine Ev.bind hwe ?_
   have hwl := h.rel.len
   have hwn := h.rel.gp.len
   refine Ev.congr (fun q => ?_) hv
   rw [hw, if_pos rfl, Option.bind_some, if_pos (by rw [List.length_nil]; omega), Option.bind_some, Option.bind_some, if_pos (by rw [List.nil_append]; simp only [List.length_cons, List.length_nil]; omega), List.nil_append, hup, hr]
  have hidx : hitI st = fl.findIdx? (fun x => x.f0 == st.count) := by
   unfold hitI
   rw [h.falls, List.findIdx?_map]
   rfl
  unfold changeK at hg ⊢
  rw [hidx] at hg ⊢
  cases hf : fl.findIdx? (fun x => x.f0 == st.count) with
  | none =>
   rw [hf] at hgo hg
   refine ⟨W ++ [r], fl, ?_, ⟨⟨hg, ?_, h.rel.room⟩, h.falls⟩⟩
   ·refine hmk _ ?_
    show Ev _ (filesL st.sure, W ++ [r], st.count + 1, st.down, fl, rm, 0)
    rw [hup]
    exact hgo
   ·show st.wait ++ [nrm r] = _
    rw [h.rel.wait, List.map_append]
    rfl
  | some m =>
   rw [hf] at hgo hg
   have hm : m < fl.length := by
    have := List.findIdx?_eq_some_iff_getElem.1 hf
    exact this.1
   have hgd : st.falls.getD m zF = toFal (rd_T90 fl (m : Int)) := by
    rw [h.falls, rd_fal (List.getElem?_eq_getElem hm), List.getD_eq_getElem?_getD, List.getElem?_map, List.getElem?_eq_getElem hm]
    rfl
   have hst : ∀ y z, failK { st with wait := st.wait ++ [nrm r], falls := st.falls.eraseIdx m } y z = { st with sure := failF { st with wait := st.wait ++ [nrm r] } y z, now := failF { st with wait := st.wait ++ [nrm r] } y z, wait := [], down := true, falls := st.falls.eraseIdx m } := fun y z => by
    unfold failK
    rw [if_neg (show ¬ (st.down = true) by rw [hup]; simp)]
    rfl
   show ∃ W' fl', Ev _ (filesL (failK { st with wait := st.wait ++ [nrm r], falls := st.falls.eraseIdx m } (st.falls.getD m zF).keep (st.falls.getD m zF).torn).sure, W', (failK { st with wait := st.wait ++ [nrm r], falls := st.falls.eraseIdx m } (st.falls.getD m zF).keep (st.falls.getD m zF).torn).count, (failK { st with wait := st.wait ++ [nrm r], falls := st.falls.eraseIdx m } (st.falls.getD m zF).keep (st.falls.getD m zF).torn).down, fl', rm, 21) ∧ RelA (i + 1) (failK { st with wait := st.wait ++ [nrm r], falls := st.falls.eraseIdx m } (st.falls.getD m zF).keep (st.falls.getD m zF).torn) W' fl' rm
   have hg2 : GP (i + 1) (failK { st with wait := st.wait ++ [nrm r], falls := st.falls.eraseIdx m } (st.falls.getD m zF).keep (st.falls.getD m zF).torn) := hg
   rw [hst, hgd] at hg2 ⊢
   refine ⟨[], fl.eraseIdx m, ?_, ⟨⟨hg2, rfl, h.rel.room⟩, ?_⟩⟩
   ·refine hmk _ ?_
    have e0 : (0 + m : Nat) = m := by omega
    have hgo2 : Ev (fun q => stowageref04_Disk_Make.l0 q (W ++ [r]) ((0 : Nat) : Int) (filesL st.sure) W st.count false fl rm) (filesL (failF { st with wait := st.wait ++ [nrm r] } (rd_T90 fl ((0 + m : Nat) : Int)).f1 (rd_T90 fl ((0 + m : Nat) : Int)).f2), [], st.count, true, fl.eraseIdx (0 + m), rm, 21) := hgo
    rw [e0] at hgo2
    exact hgo2
   ·show st.falls.eraseIdx m = _
    rw [h.falls, List.eraseIdx_eq_take_drop_succ, List.eraseIdx_eq_take_drop_succ, List.map_append, List.map_take, List.map_drop]
 ·rw [if_neg hw]
  refine ⟨W, fl, ?_, h.mono (by omega)⟩
  unfold stowageref04_Disk_Make.f
  refine Ev.bind hwe ?_
  refine Ev.congr (fun q => by rw [if_neg hw]) (Ev.now _)
/-! Clone -/
theorem mclone_any {w : World} {b : Nat} {l : Fs} (h : OwnF w b l.length l) : Calls Try.prog 39 #[.map (some b)] w fun e w' => ∃ b', e = .returned (.map (some b')) ∧ w.heap.size ≤ b' ∧ OwnF w' b' l.length l ∧ Below w.heap.size w w' :=
 (mclone_calls h).mono fun e w' ⟨h1, h2, _, h4⟩ => ⟨w.heap.size, h1, Nat.le_refl _, h2, h4⟩
theorem clone_calls {w : World} {d : Nat} {ok : Nat → Prop} {st : DK} (h : IsD w d ok st) (hw : st.wait.length * 64 ≤ 140737488355328) (hf : st.falls.length * 24 ≤ 140737488355328) :
  Calls Try.prog 36 #[.pointer (some ⟨d, 0, none⟩)] w fun e w' => ∃ c, e = .returned (.pointer (some ⟨c, 0, none⟩)) ∧ IsD w' c (fun k => w.heap.size ≤ k) st ∧ Below w.heap.size w w' := by
 obtain ⟨bs, bn, vw, vf, h⟩ := h
 have hu := Try.underlying70
 have H := Aside0.mk h
 have HW := Aside0.mk hw
 have HF := Aside0.mk hf
 obtain ⟨Aw, cw, rfl⟩ := Kd.R_slice h.wait
 obtain ⟨Af, cf, rfl⟩ := Kd.R_slice h.falls
 have hc0 := H.out.c0
 have hc1 := H.out.c1
 have hc2 := H.out.c2
 have hc3 := H.out.c3
 have hc4 := H.out.c4
 have hc5 := H.out.c5
 have hc6 := H.out.c6
 clear h hw hf
 go_enter Try.func36, Try.ntmps36
 go_upto_region 4 with (fail)
 have b1 : Below w.heap.size w (w.alloc (.cells #[.map (some bs), .map (some bn), .slice Aw st.wait.length cw, .int .i64 st.count, .bool st.down, .slice Af st.falls.length cf, .int .i64 st.room] 70 (0, 0))) := below_alloc (Below.refl _ _) _
 have B1 := Aside0.mk b1
 have X1 := Aside0.mk (heap_alloc_new w (.cells #[.map (some bs), .map (some bn), .slice Aw st.wait.length cw, .int .i64 st.count, .bool st.down, .slice Af st.falls.length cf, .int .i64 st.room] 70 (0, 0)))
 generalize w.alloc (.cells #[.map (some bs), .map (some bn), .slice Aw st.wait.length cw, .int .i64 st.count, .bool st.down, .slice Af st.falls.length cf, .int .i64 st.room] 70 (0, 0)) = w1 at b1 B1 X1 ⊢
 clear b1 hc0 hc1 hc2 hc3 hc4 hc5 hc6
 obtain ⟨q, hq⟩ : ∃ q, q = w.heap.size := ⟨_, rfl⟩
 have HQ := Aside0.mk hq
 rw [← hq] at X1 ⊢
 clear hq
 have HSk : Aside0 (∀ w', Below w.heap.size w w' → w'.cell? ⟨d, 0, none⟩ = some (.map (some bs)) ∧ w'.cell? ⟨d, 1, none⟩ = some (.map (some bn)) ∧ w'.cell? ⟨d, 2, none⟩ = some (.slice Aw st.wait.length cw) ∧ w'.cell? ⟨d, 5, none⟩ = some (.slice Af st.falls.length cf)) := ⟨fun w' hb => ⟨(H.out.below hb).c0, (H.out.below hb).c1, (H.out.below hb).c2, (H.out.below hb).c5⟩⟩
 have HOs : Aside0 (∀ w', Below w.heap.size w w' → OwnF w' bs st.sure.length st.sure) := ⟨fun w' hb => (H.out.below hb).sure⟩
 have HOn : Aside0 (∀ w', Below w.heap.size w w' → OwnF w' bn st.now.length st.now) := ⟨fun w' hb => (H.out.below hb).now⟩
 have HOw : Aside0 (∀ w', Below w.heap.size w w' → Kd.C kC w' Aw st.wait.length st.wait) := ⟨fun w' hb => by
  obtain ⟨A, c, e, _, hC⟩ := Kd.R_reads (H.out.below hb).wait
  injection e with e1 _ _
  rw [e1]
  exact hC⟩
 have HOf : Aside0 (∀ w', Below w.heap.size w w' → Kd.C kF w' Af st.falls.length st.falls) := ⟨fun w' hb => by
  obtain ⟨A, c, e, _, hC⟩ := Kd.R_reads (H.out.below hb).falls
  injection e with e1 _ _
  rw [e1]
  exact hC⟩
 have Z0 : Aside0 (Below w.heap.size w w1.drew) := ⟨below_drew1 B1.out⟩
 have fz0 := blk_frozen X1.out 0
 have fz1 := blk_frozen X1.out 1
 have fz2 := blk_frozen X1.out 2
 have fz5 := blk_frozen X1.out 5
 clear fz0 fz1 fz2 fz5
 go_region_held3 (fun w' => w'.cell? ⟨d, 0, none⟩ = some (.map (some bs)) ∧ w'.cell? ⟨d, 1, none⟩ = some (.map (some bn)) ∧ w'.cell? ⟨d, 2, none⟩ = some (.slice Aw st.wait.length cw) ∧ w'.cell? ⟨d, 5, none⟩ = some (.slice Af st.falls.length cf))
  ((refine HSk.out _ ?_; (repeat (first | (with_reducible exact Z5.out.1) | (with_reducible exact Z4.out.1) | (with_reducible exact Z3.out.1) | (with_reducible exact Z2.out.1) | (with_reducible exact Z0.out) | ((with_reducible refine Below.setCell ?_ ?_ _); rotate_left; dsimp only; (exact Nat.le_of_eq HQ.out.symm))))))
  ((first
   | (go_at_call 39; (with_reducible refine (mclone_any (HOs.out _ Z0.out)).mono ?_); rintro e w2 ⟨b2, rfl, hb2, hO2, hbl⟩; have Z2 : Aside0 (Below w.heap.size w w2 ∧ w1.heap.size ≤ b2 ∧ OwnF w2 b2 st.sure.length st.sure ∧ Below w1.heap.size w1 w2) := ⟨below_step Z0.out hbl, hb2, hO2, ⟨hbl.os, hbl.tape, hbl.output, hbl.size, hbl.block⟩⟩; clear hb2 hO2 hbl; obtain ⟨y0, y1, y2, y3⟩ := HSk.out _ Z2.out.1)
   | (go_at_call 39; (with_reducible refine (mclone_any (HOn.out _ Z2.out.1)).mono ?_); rintro e w3 ⟨b3, rfl, hb3, hO3, hbl⟩; have Z3 : Aside0 (Below w.heap.size w w3 ∧ w2.heap.size ≤ b3 ∧ OwnF w3 b3 st.now.length st.now ∧ Below w2.heap.size w2 w3) := ⟨below_step Z2.out.1 hbl, hb3, hO3, hbl⟩; clear hb3 hO3 hbl)
   | (go_at_call 51; (with_reducible refine (cchgs_calls Aw cw st.wait _ (HOw.out _ Z3.out.1) HW.out).mono ?_); rintro e w4 ⟨v4, rfl, hR4, hbl⟩; obtain ⟨A4, c4, rfl⟩ := Kd.R_slice hR4; have Z4 : Aside0 (Below w.heap.size w w4 ∧ Kd.R kC 74 w4 w3.heap.size (fun _ => True) (.slice A4 st.wait.length c4) st.wait ∧ Below w3.heap.size w3 w4) := ⟨below_step Z3.out.1 hbl, hR4, hbl⟩; clear hR4 hbl)
   | (go_at_call 40; (with_reducible refine (cfalls_calls Af cf st.falls _ (HOf.out _ Z4.out.1) HF.out).mono ?_); rintro e w5 ⟨v5, rfl, hR5, hbl⟩; obtain ⟨A5, c5, rfl⟩ := Kd.R_slice hR5; have Z5 : Aside0 (Below w.heap.size w w5 ∧ Kd.R kF 23 w5 w4.heap.size (fun _ => True) (.slice A5 st.falls.length c5) st.falls ∧ Below w4.heap.size w4 w5) := ⟨below_step Z4.out.1 hbl, hR5, hbl⟩; have X5 := blk_below (blk_below (blk_below (blk_below X1.out Z2.out.2.2.2) Z3.out.2.2.2) Z4.out.2.2) Z5.out.2.2; have x0 := (blk_cell X5 0).trans rfl; have x1 := (blk_cell X5 1).trans rfl; have x2 := (blk_cell X5 2).trans rfl; have x5 := (blk_cell X5 5).trans rfl; have f0 := blk_frozen X5 0; have f1 := blk_frozen X5 1; have f2 := blk_frozen X5 2; have f5 := blk_frozen X5 5; have XX := Aside0.mk X5; clear X5 hR5 hbl)))
 have hX := XX.out
 have hq1 : q < w1.heap.size := blk_lt X1.out
 have hq0 := HQ.out
 obtain ⟨z1, z2, z3, z4⟩ := Z2.out
 obtain ⟨a1, a2, a3, a4⟩ := Z3.out
 obtain ⟨c1, c2, c3⟩ := Z4.out
 obtain ⟨g1, g2, g3⟩ := Z5.out
 have B35 := below_step c3 g3
 have B25 := below_step a4 B35
 have n2 : b2 < w2.heap.size := z3.lt
 have n3 : b3 < w3.heap.size := a3.lt
 have s12 := z4.size
 have s23 := a4.size
 have s34 := c3.size
 have s45 := g3.size
 have m2 : b2 ≠ q := by omega
 have m3 : b3 ≠ q := by omega
 have far : ∀ k, k ≠ q → ((((w5.setCell ⟨q, 0, none⟩ (.map (some b2))).setCell ⟨q, 1, none⟩ (.map (some b3))).setCell ⟨q, 2, none⟩ (.slice A4 st.wait.length c4)).setCell ⟨q, 5, none⟩ (.slice A5 st.falls.length c5)).heap[k]? = w5.heap[k]? := fun k hk => by
  rw [Below.heap_setCell _ _ _ _ hk, Below.heap_setCell _ _ _ _ hk, Below.heap_setCell _ _ _ _ hk, Below.heap_setCell _ _ _ _ hk]
 have RW := Kd.R_mono (Kd.R_lower (Kd.R_bound (Kd.R_below c2 g3)) (Nat.zero_le _)) (fun k hk => (by have := hk.2.1; omega : w.heap.size ≤ k))
 have RF := Kd.R_mono (Kd.R_lower (Kd.R_bound g2) (Nat.zero_le _)) (fun k hk => (by have := hk.2.1; omega : w.heap.size ≤ k))
 have FIN : IsD ((((w5.setCell ⟨q, 0, none⟩ (.map (some b2))).setCell ⟨q, 1, none⟩ (.map (some b3))).setCell ⟨q, 2, none⟩ (.slice A4 st.wait.length c4)).setCell ⟨q, 5, none⟩ (.slice A5 st.falls.length c5)) q (fun k => w.heap.size ≤ k) st :=
  ⟨b2, b3, _, _, ⟨blk_put (blk_put (blk_put (blk_put hX 0 _ rfl) 1 _ rfl) 2 _ rfl) 5 _ rfl, OwnF_move z3 ((far b2 m2).trans (B25.block b2 n2)), OwnF_move a3 ((far b3 m3).trans (B35.block b3 n3)), by omega, by show w.heap.size ≤ q; omega, by show w.heap.size ≤ b2; omega, by show w.heap.size ≤ b3; omega, R_keepT RW (fun k _ _ ht => far k (typed_ne ht hX chg_ne)), R_keepT RF (fun k _ _ ht => far k (typed_ne ht hX fall_ne))⟩⟩
 have FIN2 : Below w.heap.size w ((((w5.setCell ⟨q, 0, none⟩ (.map (some b2))).setCell ⟨q, 1, none⟩ (.map (some b3))).setCell ⟨q, 2, none⟩ (.slice A4 st.wait.length c4)).setCell ⟨q, 5, none⟩ (.slice A5 st.falls.length c5)) :=
  (((g1.setCell (p := ⟨q, 0, none⟩) (by show w.heap.size ≤ q; omega) _).setCell (p := ⟨q, 1, none⟩) (by show w.heap.size ≤ q; omega) _).setCell (p := ⟨q, 2, none⟩) (by show w.heap.size ≤ q; omega) _).setCell (p := ⟨q, 5, none⟩) (by show w.heap.size ≤ q; omega) _
 have FF := Aside0.mk (And.intro FIN FIN2)
 clear FIN FIN2 RW RF far m2 m3 s12 s23 s34 s45 n2 n3 B25 B35 g1 g2 g3 c1 c2 c3 a1 a2 a3 a4 z1 z2 z3 z4 hq0 hq1 hX
 go_wp2
 go_ret
 exact ⟨q, rfl, FF.out.1, FF.out.2⟩
/-! call -/
theorem call_gp {w : World} {d : Nat} {ok : Nat → Prop} {st : DK} {i : Nat} (h : IsD w d ok st) (hnew : ∀ k, w.heap.size ≤ k → ok k) (hg : GP i st) (hi : i ≤ 1000) (k : Int) (a b s : ByteArray) (n x5 x6 x7 : Int) (A : Option Addr) (m c : Nat) (hk : 0 ≤ k ∧ k ≤ 4) (ha : a.size ≤ BM) (hb : b.size ≤ BM) (hs : s.size ≤ BM) :
  Calls Try.prog 21 #[.pointer (some ⟨d, 0, none⟩), .agg #[.int .i64 k, .string a, .string b, .string s, .int .i64 n, .int .i64 x5, .int .i64 x6, .int .i64 x7, .slice A m c]] w fun e w' => e = .returned (.int .i64 (callK st k a b s n).2) ∧ IsD w' d ok (callK st k a b s n).1 ∧ Kp ok w w' := by
 have hua := Try.underlying40
 have huf := Try.underlying23
 have hz : (⟨#[]⟩ : ByteArray).size ≤ BM := by decide
 have C0 := Aside0.mk (fun (_ : st.down = false) (_ : nameS a = true) => hg.can hi (hg.okc hi (k := 0) (n := 0) (by decide) ha hz hs (fun e => absurd e (by decide))))
 have C1 := Aside0.mk (fun (_ : st.down = false) (_ : nameS a = true) => hg.can hi (hg.okc hi (k := 1) (n := 0) (by decide) ha hz hs (fun e => absurd e (by decide))))
 have C2 := Aside0.mk (fun (_ : st.down = false) (_ : nameS a = true) (_ : nameS b = true) (_ : hasF st.now a = true) => hg.can hi (hg.okc hi (k := 2) (n := 0) (by decide) ha hb hz (fun e => absurd e (by decide))))
 have C3 := Aside0.mk (fun (_ : st.down = false) (_ : nameS a = true) (_ : hasF st.now a = true) => hg.can hi (hg.okc hi (k := 3) (n := 0) (by decide) ha hz hz (fun e => absurd e (by decide))))
 have C4 := Aside0.mk (fun (_ : st.down = false) (_ : nameS a = true) (_ : hasF st.now a = true) (hc : 0 ≤ n ∧ n ≤ ((getF st.now a).size : Int)) => hg.can hi (hg.okc hi (k := 4) (n := n) (by decide) ha hz hz (fun _ => hc)))
 have HT : Aside0 (totF st.now ≤ 4000000000000000000 ∧ s.size ≤ 4000000000000000000) := ⟨hg.small hi, Nat.le_trans hs (by decide)⟩
 have HA : Aside0 (a.size ≤ 9223372036854775807 ∧ b.size ≤ 9223372036854775807) := ⟨Nat.le_trans ha (by decide), Nat.le_trans hb (by decide)⟩
 have H := Aside0.mk h
 have HN := Aside0.mk hnew
 clear h hnew hg hi ha hb hs hz
 by_cases h0 : k = 0
 ·subst h0
  have HX := Aside0.mk (heap_alloc_new w (.cells #[.int .i64 0, .string a, .string b, .string s, .int .i64 n, .int .i64 x5, .int .i64 x6, .int .i64 x7, .slice A m c] 40 (0, 0)))
  have B1 : Aside0 (Below w.heap.size w (w.alloc (.cells #[.int .i64 0, .string a, .string b, .string s, .int .i64 n, .int .i64 x5, .int .i64 x6, .int .i64 x7, .slice A m c] 40 (0, 0)))) := ⟨below_alloc (Below.refl _ _) _⟩
  have H1 := Aside0.mk (H.out.step (W' := w.alloc (.cells #[.int .i64 0, .string a, .string b, .string s, .int .i64 n, .int .i64 x5, .int .i64 x6, .int .i64 x7, .slice A m c] 40 (0, 0))) (fun k _ hk => B1.out.block k hk))
  have e0 := (blk_cell HX.out 0).trans rfl
  have e1 := (blk_cell HX.out 1).trans rfl
  have e2 := (blk_cell HX.out 2).trans rfl
  have e3 := (blk_cell HX.out 3).trans rfl
  have e4 := (blk_cell HX.out 4).trans rfl
  have HE : Aside0 (callK st 0 a b s n = appendK st a s) := ⟨rfl⟩
  clear hk
  go_enter Try.func21, Try.ntmps21
  go_wp2_with (fail)
  refine (append_calls H1.out (fun k hk => HN.out k (Nat.le_trans B1.out.size hk)) a s HA.out.1 HT.out C0.out).mono ?_
  rintro e w9 ⟨rfl, hI, hK⟩
  go_wp2
  go_ret
  exact ⟨by rw [HE.out]; rfl, by rw [HE.out]; exact hI, (Kp.of_below B1.out).trans hK⟩
 by_cases h1 : k = 1
 ·subst h1
  have HX := Aside0.mk (heap_alloc_new w (.cells #[.int .i64 1, .string a, .string b, .string s, .int .i64 n, .int .i64 x5, .int .i64 x6, .int .i64 x7, .slice A m c] 40 (0, 0)))
  have B1 : Aside0 (Below w.heap.size w (w.alloc (.cells #[.int .i64 1, .string a, .string b, .string s, .int .i64 n, .int .i64 x5, .int .i64 x6, .int .i64 x7, .slice A m c] 40 (0, 0)))) := ⟨below_alloc (Below.refl _ _) _⟩
  have H1 := Aside0.mk (H.out.step (W' := w.alloc (.cells #[.int .i64 1, .string a, .string b, .string s, .int .i64 n, .int .i64 x5, .int .i64 x6, .int .i64 x7, .slice A m c] 40 (0, 0))) (fun k _ hk => B1.out.block k hk))
  have e0 := (blk_cell HX.out 0).trans rfl
  have e1 := (blk_cell HX.out 1).trans rfl
  have e2 := (blk_cell HX.out 2).trans rfl
  have e3 := (blk_cell HX.out 3).trans rfl
  have e4 := (blk_cell HX.out 4).trans rfl
  have HE : Aside0 (callK st 1 a b s n = writeK st a s) := ⟨rfl⟩
  clear hk
  go_enter Try.func21, Try.ntmps21
  go_wp2_with (fail)
  refine (write_calls H1.out (fun k hk => HN.out k (Nat.le_trans B1.out.size hk)) a s HA.out.1 HT.out C1.out).mono ?_
  rintro e w9 ⟨rfl, hI, hK⟩
  go_wp2
  go_ret
  exact ⟨by rw [HE.out]; rfl, by rw [HE.out]; exact hI, (Kp.of_below B1.out).trans hK⟩
 by_cases h2 : k = 2
 ·subst h2
  have HX := Aside0.mk (heap_alloc_new w (.cells #[.int .i64 2, .string a, .string b, .string s, .int .i64 n, .int .i64 x5, .int .i64 x6, .int .i64 x7, .slice A m c] 40 (0, 0)))
  have B1 : Aside0 (Below w.heap.size w (w.alloc (.cells #[.int .i64 2, .string a, .string b, .string s, .int .i64 n, .int .i64 x5, .int .i64 x6, .int .i64 x7, .slice A m c] 40 (0, 0)))) := ⟨below_alloc (Below.refl _ _) _⟩
  have H1 := Aside0.mk (H.out.step (W' := w.alloc (.cells #[.int .i64 2, .string a, .string b, .string s, .int .i64 n, .int .i64 x5, .int .i64 x6, .int .i64 x7, .slice A m c] 40 (0, 0))) (fun k _ hk => B1.out.block k hk))
  have e0 := (blk_cell HX.out 0).trans rfl
  have e1 := (blk_cell HX.out 1).trans rfl
  have e2 := (blk_cell HX.out 2).trans rfl
  have e3 := (blk_cell HX.out 3).trans rfl
  have e4 := (blk_cell HX.out 4).trans rfl
  have HE : Aside0 (callK st 2 a b s n = moveK st a b) := ⟨rfl⟩
  clear hk
  go_enter Try.func21, Try.ntmps21
  go_wp2_with (fail)
  refine (move_calls H1.out (fun k hk => HN.out k (Nat.le_trans B1.out.size hk)) a b HA.out.1 HA.out.2 C2.out).mono ?_
  rintro e w9 ⟨rfl, hI, hK⟩
  go_wp2
  go_ret
  exact ⟨by rw [HE.out]; rfl, by rw [HE.out]; exact hI, (Kp.of_below B1.out).trans hK⟩
 by_cases h3 : k = 3
 ·subst h3
  have HX := Aside0.mk (heap_alloc_new w (.cells #[.int .i64 3, .string a, .string b, .string s, .int .i64 n, .int .i64 x5, .int .i64 x6, .int .i64 x7, .slice A m c] 40 (0, 0)))
  have B1 : Aside0 (Below w.heap.size w (w.alloc (.cells #[.int .i64 3, .string a, .string b, .string s, .int .i64 n, .int .i64 x5, .int .i64 x6, .int .i64 x7, .slice A m c] 40 (0, 0)))) := ⟨below_alloc (Below.refl _ _) _⟩
  have H1 := Aside0.mk (H.out.step (W' := w.alloc (.cells #[.int .i64 3, .string a, .string b, .string s, .int .i64 n, .int .i64 x5, .int .i64 x6, .int .i64 x7, .slice A m c] 40 (0, 0))) (fun k _ hk => B1.out.block k hk))
  have e0 := (blk_cell HX.out 0).trans rfl
  have e1 := (blk_cell HX.out 1).trans rfl
  have e2 := (blk_cell HX.out 2).trans rfl
  have e3 := (blk_cell HX.out 3).trans rfl
  have e4 := (blk_cell HX.out 4).trans rfl
  have HE : Aside0 (callK st 3 a b s n = removeK st a) := ⟨rfl⟩
  clear hk
  go_enter Try.func21, Try.ntmps21
  go_wp2_with (fail)
  refine (remove_calls H1.out (fun k hk => HN.out k (Nat.le_trans B1.out.size hk)) a HA.out.1 C3.out).mono ?_
  rintro e w9 ⟨rfl, hI, hK⟩
  go_wp2
  go_ret
  exact ⟨by rw [HE.out]; rfl, by rw [HE.out]; exact hI, (Kp.of_below B1.out).trans hK⟩
 obtain rfl : k = 4 := by omega
 have HX := Aside0.mk (heap_alloc_new w (.cells #[.int .i64 4, .string a, .string b, .string s, .int .i64 n, .int .i64 x5, .int .i64 x6, .int .i64 x7, .slice A m c] 40 (0, 0)))
 have B1 : Aside0 (Below w.heap.size w (w.alloc (.cells #[.int .i64 4, .string a, .string b, .string s, .int .i64 n, .int .i64 x5, .int .i64 x6, .int .i64 x7, .slice A m c] 40 (0, 0)))) := ⟨below_alloc (Below.refl _ _) _⟩
 have H1 := Aside0.mk (H.out.step (W' := w.alloc (.cells #[.int .i64 4, .string a, .string b, .string s, .int .i64 n, .int .i64 x5, .int .i64 x6, .int .i64 x7, .slice A m c] 40 (0, 0))) (fun k _ hk => B1.out.block k hk))
 have e0 := (blk_cell HX.out 0).trans rfl
 have e1 := (blk_cell HX.out 1).trans rfl
 have e2 := (blk_cell HX.out 2).trans rfl
 have e3 := (blk_cell HX.out 3).trans rfl
 have e4 := (blk_cell HX.out 4).trans rfl
 have HE : Aside0 (callK st 4 a b s n = cutK st a n) := ⟨rfl⟩
 clear hk
 go_enter Try.func21, Try.ntmps21
 go_wp2_with (fail)
 refine (cut_calls H1.out (fun k hk => HN.out k (Nat.le_trans B1.out.size hk)) a n HA.out.1 C4.out).mono ?_
 rintro e w9 ⟨rfl, hI, hK⟩
 go_wp2
 go_ret
 exact ⟨by rw [HE.out]; rfl, by rw [HE.out]; exact hI, (Kp.of_below B1.out).trans hK⟩
end Go.Proofs.Ytabngibognlmoaa.Q
