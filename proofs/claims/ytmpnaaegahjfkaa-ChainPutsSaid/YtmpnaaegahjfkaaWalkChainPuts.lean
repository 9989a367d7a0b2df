
/- ChainPuts answers true at every input. -/
import Derived.Test.YtmpnaaegahjfkaaPc
import Derived.Test.YtmpnaaegahjfkaaQx7
import Derived.Test.YtmpnaaegahjfkaaQx8
import Derived.Test.YtmpnaaegahjfkaaQx15
namespace Go.Proofs.Ytmpnaaegahjfkaa.Q
open Go.RowKit Go.Proofs.YtmpnaaegahjfkaaW.PrintWords Go.Proofs.YtmpnaaegahjfkaaW.PrintLast Go.Proofs.YtmpnaaegahjfkaaW.PrintMore
set_option linter.unusedVariables false
set_option linter.unusedSimpArgs false
theorem okV_of {v : S24} (hv : ((Lit.int .i64 v.f0).wf = true ∧ (True ∧ ((Lit.int .i64 v.f2).wf = true ∧ (v.f3.size ≤ 140737488351232 ∧ (v.f4.length * 24 ≤ 140737488351232 ∧ ∀ y1 ∈ v.f4, (y1.f0.size ≤ 140737488351232 ∧ (Lit.int .i64 y1.f1).wf = true))))))) : OkV v := ⟨Nat.le_trans hv.2.2.2.1 (by omega), by have := hv.2.2.2.2.1; omega, fun p hp => Nat.le_trans (hv.2.2.2.2.2 p hp).1 (by omega)⟩
/-! Put -/
def putBad (l : List S24) (v : S24) : Bool := !(rightS l) || !(chkV v == 0) || (decide (0 < l.length) && decide (v.f0 ≤ (l.getD 0 z24).f0))
def putS (l : List S24) (v : S24) : List S24 × Int := if putBad l v = true then ([], 1) else if l.length = 32 then ([], 131) else (v :: l, 0)
theorem put_j0 (l : List S24) (v : S24) (x : Bool) (hx : putBad l v = x) : Ev (fun k => chain_Put.j0 k l x v.f0 v.f1 v.f2 v.f3 v.f4) (putS l v) := by
  unfold putS
  cases x with
  | true =>
    rw [if_pos hx]
    exact Ev.step (f := fun _ => some ([], 1)) (fun k => by rw [chain_Put.j0, if_pos rfl]) (Ev.now _)
  | false =>
    rw [if_neg (by rw [hx]; simp)]
    unfold putBad at hx
    rw [Bool.or_eq_false_iff, Bool.or_eq_false_iff, Bool.not_eq_false', Bool.not_eq_false', beq_iff_eq] at hx
    have hR := hx.1.1
    have hC := hx.1.2
    have hl := (right_at hR).1
    by_cases h32 : l.length = 32
    · rw [if_pos h32]
      exact Ev.step (f := fun _ => some ([], 131)) (fun k => by rw [chain_Put.j0, if_neg (by simp), if_pos (by omega)]) (Ev.now _)
    · rw [if_neg h32]
      refine Ev.step (f := fun k => (chain_copied.f k l).bind fun t => if [v].length + t.length < 2199023255552 then some ([v] ++ t, 0) else none) (fun k => ?_) (Ev.bind (copied_ev l hl (fun q hq => chk_len (right_mem hR hq))) (Ev.congr (f := fun _ => some (v :: l, 0)) (fun k => ?_) (Ev.now _)))
      · rw [chain_Put.j0, if_neg (by simp), if_neg (by omega), own_some v (chk_len hC)]
        rfl
      · rw [if_pos (by simp; omega)]; rfl
theorem put_ev (l : List S24) (v : S24) (hl : l.length ≤ 2199023255551) (hok : ∀ v ∈ l, OkV v) (hv : OkV v) : Ev (fun k => chain_Put.f k l v.f0 v.f1 v.f2 v.f3 v.f4) (putS l v) := by
  unfold chain_Put.f
  refine Ev.bind (right_ev l (by omega) hok) ?_
  refine Ev.ite (fun hR => ?_) (fun hR => ?_)
  · refine Ev.bind (chkV_ev v hv) ?_
    refine Ev.ite (fun hC => ?_) (fun hC => ?_)
    · by_cases h0 : 0 < l.length
      · refine Ev.congr (f := fun k => chain_Put.j0 k l (decide (v.f0 ≤ (l.getD 0 z24).f0)) v.f0 v.f1 v.f2 v.f3 v.f4) (fun k => by rw [if_pos (by omega), if_pos (by omega)]; rfl) (put_j0 l v _ ?_)
        unfold putBad
        rw [hR, hC]
        simp [h0]
      · refine Ev.congr (f := fun k => chain_Put.j0 k l false v.f0 v.f1 v.f2 v.f3 v.f4) (fun k => by rw [if_neg (by omega)]) (put_j0 l v _ ?_)
        unfold putBad
        rw [hR, hC]
        simp [h0]
    · refine put_j0 l v _ ?_
      unfold putBad
      rw [show (chkV v == 0) = false from beq_eq_false_iff_ne.mpr hC]
      simp
  · refine put_j0 l v _ ?_
    unfold putBad
    rw [Bool.not_eq_true] at hR
    rw [hR]
    simp
theorem right_below {l : List S24} (h : rightS l = true) : ∀ (j : Nat), j < l.length → (l.getD j z24).f0 ≤ (l.getD 0 z24).f0
  | 0, _ => Int.le_refl _
  | j + 1, hj => by
    have h1 := right_below h j (by omega)
    have h2 := (right_at h).2.2 j hj
    omega
theorem rput_go (l : List S24) (v : S24) (hl : l.length ≤ 32) (hh : ∀ j, j < l.length → (l.getD j z24).f0 ≤ (l.getD 0 z24).f0) : ∀ (d i : Nat), i + d = l.length → (0 < i → (l.getD 0 z24).f0 < v.f0) →
    Ev (fun k => stowageref13_Put.l0 k (l.map m36) (i : Int) (m36 v).f0 (m36 v).f1 (m36 v).f2 (m36 v).f3 (m36 v).f4) (if 0 < l.length ∧ v.f0 ≤ (l.getD 0 z24).f0 then ([], 1) else if l.length = 32 then ([], 131) else (m36 v :: l.map m36, 0))
  | 0, i, h, hb => by
    have eL : ((l.map m36).length : Int) = (l.length : Int) := by rw [List.length_map]
    have hn : ¬ (0 < l.length ∧ v.f0 ≤ (l.getD 0 z24).f0) := fun e => by have := hb (by omega); omega
    rw [if_neg hn]
    by_cases h32 : l.length = 32
    · rw [if_pos h32]
      exact Ev.step (f := fun _ => some ([], 131)) (fun k => by rw [stowageref13_Put.l0, eL, if_neg (by omega), if_pos (by omega)]) (Ev.now _)
    · rw [if_neg h32]
      refine Ev.step (f := fun _ => some (m36 v :: l.map m36, 0)) (fun k => ?_) (Ev.now _)
      rw [stowageref13_Put.l0, eL, if_neg (by omega), if_neg (by omega), Option.bind_some, if_pos (by rw [List.length_map]; simp; omega)]
      rfl
  | d + 1, i, h, hb => by
    have eL : ((l.map m36).length : Int) = (l.length : Int) := by rw [List.length_map]
    have hi : i < l.length := by omega
    have e1 : ((l.map m36).getD i z36).f0 = (l.getD i z24).f0 := by rw [getD_map36 l i hi]; rfl
    have hle := hh i hi
    by_cases hge : (l.getD i z24).f0 ≥ v.f0
    · rw [if_pos ⟨by omega, by omega⟩]
      refine Ev.step (f := fun _ => some ([], 1)) (fun k => ?_) (Ev.now _)
      rw [stowageref13_Put.l0, eL, if_pos (by omega), if_pos (by omega), rd36, e1, if_pos (show (l.getD i z24).f0 ≥ (m36 v).f0 from hge)]
    · refine Ev.step (fun k => ?_) (rput_go l v hl hh d (i + 1) (by omega) (fun _ => ?_))
      · rw [stowageref13_Put.l0, eL, if_pos (by omega), if_pos (by omega), rd36, e1, if_neg (show ¬ (l.getD i z24).f0 ≥ (m36 v).f0 from hge), w1 i (by omega)]
      · by_cases h0 : i = 0
        · rw [h0] at hge; omega
        · exact hb (by omega)
theorem putBad_iff {l : List S24} {v : S24} (hR : rightS l = true) (hC : chkV v = 0) : putBad l v = true ↔ 0 < l.length ∧ v.f0 ≤ (l.getD 0 z24).f0 := by
  unfold putBad
  rw [hR, show (chkV v == 0) = true from beq_iff_eq.mpr hC, Bool.not_true, Bool.false_or, Bool.false_or, Bool.and_eq_true, decide_eq_true_iff, decide_eq_true_iff]
theorem rput_ev (l : List S24) (v : S24) (hl : l.length ≤ 2199023255551) (hok : ∀ v ∈ l, OkV v) (hv : OkV v) : Ev (fun k => stowageref13_Put.f k (l.map m36) (m36 v).f0 (m36 v).f1 (m36 v).f2 (m36 v).f3 (m36 v).f4) ((putS l v).1.map m36, (putS l v).2) := by
  have bad : putBad l v = true → ((putS l v).1.map m36, (putS l v).2) = (([] : List S36), (1 : Int)) := fun h => by unfold putS; rw [if_pos h]; rfl
  unfold stowageref13_Put.f
  refine Ev.bind (may36_ev l (by omega) hok) ?_
  refine Ev.ite (fun hR => ?_) (fun hR => ?_)
  · refine Ev.bind (chk36_ev v hv) ?_
    by_cases hC : chkV v = 0
    · rw [show (chkV v != 0) = false by simp [hC]]
      have hG := rput_go l v (right_at hR).1 (right_below hR) l.length 0 (by omega) (fun h => by omega)
      have e : (if 0 < l.length ∧ v.f0 ≤ (l.getD 0 z24).f0 then ([], 1) else if l.length = 32 then ([], 131) else (m36 v :: l.map m36, 0)) = ((putS l v).1.map m36, (putS l v).2) := by
        have hI := putBad_iff hR hC
        unfold putS
        by_cases h1 : 0 < l.length ∧ v.f0 ≤ (l.getD 0 z24).f0
        · rw [if_pos h1, if_pos (hI.2 h1)]; rfl
        · rw [if_neg h1, if_neg (fun e => h1 (hI.1 e))]
          by_cases h2 : l.length = 32
          · rw [if_pos h2, if_pos h2]; rfl
          · rw [if_neg h2, if_neg h2]; rfl
      rw [e] at hG
      exact Ev.step (fun k => by rw [stowageref13_Put.j0, if_neg (by simp)]; rfl) hG
    · rw [show (chkV v != 0) = true by simp [hC], bad (by unfold putBad; rw [show (chkV v == 0) = false from beq_eq_false_iff_ne.mpr hC]; simp)]
      exact Ev.step (f := fun _ => some ([], 1)) (fun k => by rw [stowageref13_Put.j0, if_pos rfl]) (Ev.now _)
  · rw [bad (by unfold putBad; rw [Bool.not_eq_true] at hR; rw [hR]; simp)]
    exact Ev.step (f := fun _ => some ([], 1)) (fun k => by rw [stowageref13_Put.j0, if_pos rfl]) (Ev.now _)
/-! Drop -/
def dropS (l : List S24) (id : Int) : List S24 × Int := if rightS l = true then (if atF l id < 0 then ([], 4) else (l.take (atF l id).toNat ++ l.drop ((atF l id).toNat + 1), 0)) else ([], 1)
theorem drop_ev (l : List S24) (id : Int) (hl : l.length ≤ 2199023255551) (hok : ∀ v ∈ l, OkV v) : Ev (fun k => chain_Drop.f k l id) (dropS l id) := by
  unfold chain_Drop.f dropS
  refine Ev.bind (right_ev l (by omega) hok) ?_
  by_cases hR : rightS l = true
  · simp only [hR, if_true]
    by_cases h0 : atF l id < 0
    · simp only [h0, if_true]; exact Ev.now _
    · simp only [h0, if_false]
      refine Ev.bind (copied_ev l (right_at hR).1 (fun q hq => chk_len (right_mem hR hq))) ?_
      exact Ev.congr (fun k => if_pos (by omega)) (Ev.now _)
  · simp only [hR]; exact Ev.now _
theorem atF_cons (v : S24) (l : List S24) (id : Int) : atF (v :: l) id = if v.f0 = id then 0 else (if atF l id < 0 then -1 else atF l id + 1) := by
  unfold atF
  rw [List.findIdx?_cons]
  by_cases h : v.f0 = id
  · rw [if_pos h, if_pos (by simp [h])]; rfl
  · rw [if_neg h, if_neg (by simp [h])]
    cases hq : List.findIdx? (fun v => v.f0 == id) l with
    | none => rfl
    | some j => simp only [Option.map_some]; rw [if_neg (by omega)]; omega
theorem atF_ge (l : List S24) (id : Int) : -1 ≤ atF l id ∧ atF l id < l.length := by
  unfold atF
  cases hq : List.findIdx? (fun v => v.f0 == id) l with
  | none => simp only []; omega
  | some j => have := (List.findIdx?_eq_some_iff_getElem.1 hq).1; simp only []; omega
def Falls (l : List S24) : Prop := l.Pairwise (fun a b => b.f0 < a.f0)
theorem falls_of : ∀ {l : List S24}, (∀ j, j + 1 < l.length → (l.getD (j + 1) z24).f0 < (l.getD j z24).f0) → Falls l
  | [], _ => List.Pairwise.nil
  | [a], _ => by unfold Falls; simp
  | a :: b :: l, h => by
    have h1 : Falls (b :: l) := falls_of (fun j hj => h (j + 1) (by simp only [List.length_cons] at hj ⊢; omega))
    have h0 : b.f0 < a.f0 := h 0 (by simp)
    refine List.Pairwise.cons (fun x hx => ?_) h1
    rcases List.mem_cons.1 hx with rfl | hx
    · exact h0
    · have := (List.pairwise_cons.1 h1).1 x hx
      omega
theorem filter_ne : ∀ {l : List S24} {id : Int}, Falls l → l.filter (fun v => !(v.f0 == id)) = if atF l id < 0 then l else l.take (atF l id).toNat ++ l.drop ((atF l id).toNat + 1)
  | [], id, _ => rfl
  | v :: l, id, h => by
    have h2 := List.pairwise_cons.1 h
    rw [atF_cons, List.filter_cons]
    by_cases hv : v.f0 = id
    · rw [if_pos hv, if_neg (by simp [hv]), if_neg (by omega)]
      have : l.filter (fun v => !(v.f0 == id)) = l := List.filter_eq_self.2 (fun x hx => by have := h2.1 x hx; simp; omega)
      rw [this]; rfl
    · rw [if_neg hv, if_pos (by simp [hv]), filter_ne h2.2]
      have hg := (atF_ge l id).1
      by_cases ha : atF l id < 0
      · rw [if_pos ha, if_pos ha, if_pos (by omega)]
      · rw [if_neg ha, if_neg ha, if_neg (by omega)]
        have e : (atF l id + 1).toNat = (atF l id).toNat + 1 := by omega
        rw [e]; rfl
theorem rdrop_go (l : List S24) (id : Int) (hl : l.length ≤ 32) : ∀ (t : List S24) (i : Nat) (out : List S36), l.drop i = t → i ≤ l.length → out = ((l.take i).filter (fun v => !(v.f0 == id))).map m36 →
    Ev (fun k => stowageref13_Drop.l0 k (l.map m36) id out (i : Int)) (if (l.filter (fun v => !(v.f0 == id))).length = l.length then ([], 4) else ((l.filter (fun v => !(v.f0 == id))).map m36, 0))
  | [], i, out, ht, hi, ho => by
    have hge : l.length ≤ i := by have := congrArg List.length ht; simp at this; omega
    have eL : ((l.map m36).length : Int) = (l.length : Int) := by rw [List.length_map]
    rw [List.take_of_length_le hge] at ho
    have eo : out.length = (l.filter (fun v => !(v.f0 == id))).length := by rw [ho, List.length_map]
    rw [← eo, ← ho]
    by_cases h : out.length = l.length
    · rw [if_pos h]
      exact Ev.step (f := fun _ => some ([], 4)) (fun k => by rw [stowageref13_Drop.l0, eL, if_neg (by omega), if_pos (by omega)]) (Ev.now _)
    · rw [if_neg h]
      exact Ev.step (f := fun _ => some (out, 0)) (fun k => by rw [stowageref13_Drop.l0, eL, if_neg (by omega), if_neg (by omega)]) (Ev.now _)
  | p :: t, i, out, ht, hi, ho => by
    have hlt : i < l.length := by have := congrArg List.length ht; simp at this; omega
    have e := List.drop_eq_getElem_cons hlt
    rw [ht] at e
    injection e with e1 e2
    have eL : ((l.map m36).length : Int) = (l.length : Int) := by rw [List.length_map]
    have eg : (l.map m36).getD i z36 = m36 p := by rw [getD_map36 l i hlt, List.getD_eq_getElem?_getD, List.getElem?_eq_getElem hlt, e1]; rfl
    have et : l.take (i + 1) = l.take i ++ [p] := by rw [List.take_succ_eq_append_getElem hlt, e1]
    by_cases hp : p.f0 = id
    · refine Ev.step (fun k => ?_) (rdrop_go l id hl t (i + 1) out e2.symm (by omega) (by rw [et, List.filter_append, List.filter_cons, if_neg (by simp [hp])]; simp [ho]))
      rw [stowageref13_Drop.l0, eL, if_pos (by omega), if_pos (by omega), rd36, eg, if_pos (show (m36 p).f0 = id from hp), w1 i (by omega)]
    · refine Ev.step (fun k => ?_) (rdrop_go l id hl t (i + 1) (out ++ [m36 p]) e2.symm (by omega) (by rw [et, List.filter_append, List.filter_cons, if_pos (by simp [hp])]; simp [ho]))
      have hlen : out.length ≤ l.length := by
        rw [ho, List.length_map]
        exact Nat.le_trans (List.length_filter_le _ _) (by rw [List.length_take]; omega)
      rw [stowageref13_Drop.l0, eL, if_pos (by omega), if_pos (by omega), rd36, eg, if_neg (show ¬ (m36 p).f0 = id from hp), if_pos (by omega), w1 i (by omega)]
theorem rdrop_ev (l : List S24) (id : Int) (hl : l.length ≤ 2199023255551) (hok : ∀ v ∈ l, OkV v) : Ev (fun k => stowageref13_Drop.f k (l.map m36) id) ((dropS l id).1.map m36, (dropS l id).2) := by
  unfold stowageref13_Drop.f dropS
  refine Ev.bind (may36_ev l (by omega) hok) ?_
  by_cases hR : rightS l = true
  · simp only [hR, if_true]
    have hG := rdrop_go l id (right_at hR).1 l 0 [] rfl (by omega) (by simp)
    rw [filter_ne (falls_of (right_at hR).2.2)] at hG
    by_cases h0 : atF l id < 0
    · simp only [h0, if_true] at hG ⊢
      exact hG
    · simp only [h0, if_false] at hG ⊢
      have hb := atF_ge l id
      rw [if_neg (by rw [List.length_append, List.length_take, List.length_drop]; omega)] at hG
      exact hG
  · simp only [hR]; exact Ev.now _
theorem okv_drop {l : List S24} {id : Int} (hok : ∀ v ∈ l, OkV v) : ∀ v ∈ (dropS l id).1, OkV v := by
  intro v hv
  unfold dropS at hv
  split at hv
  · split at hv
    · cases hv
    · rcases List.mem_append.1 hv with h | h
      · exact hok v (List.mem_of_mem_take h)
      · exact hok v (List.mem_of_mem_drop h)
  · cases hv
theorem len_drop (l : List S24) (id : Int) : (dropS l id).1.length ≤ l.length := by
  unfold dropS
  split
  · split
    · simp
    · simp only [List.length_append, List.length_take, List.length_drop]; have := atF_ge l id; omega
  · simp
theorem okv_put {l : List S24} {v : S24} (hok : ∀ v ∈ l, OkV v) (hv : OkV v) : ∀ q ∈ (putS l v).1, OkV q := by
  intro q hq
  unfold putS at hq
  split at hq
  · cases hq
  · split at hq
    · cases hq
    · rcases List.mem_cons.1 hq with rfl | h
      · exact hv
      · exact hok q h
theorem len_put (l : List S24) (v : S24) : (putS l v).1.length ≤ l.length + 1 := by
  unfold putS
  split
  · simp
  · split
    · simp
    · simp
theorem puts_ev (l : List S24) (v : S24) (id : Int) (hl : l.length ≤ 2199023255550) (hok : ∀ v ∈ l, OkV v) (hv : OkV v) : Ev (fun k => stowagelaw13_ChainPuts.f k l v.f0 v.f1 v.f2 v.f3 v.f4 id) true := by
  unfold stowagelaw13_ChainPuts.f
  refine Ev.bind (put_ev l v (by omega) hok hv) (Ev.bind (refs_ev l (by omega) hok) (Ev.bind (ref_ev _ _ _ _ _ hv.len) (Ev.bind (rput_ev l v (by omega) hok hv) (Ev.bind (drop_ev l id (by omega) hok) (Ev.bind (refs_ev l (by omega) hok) (Ev.bind (rdrop_ev l id (by omega) hok) (Ev.bind awake_ev ?_)))))))
  have hlp := len_put l v
  have hld := len_drop l id
  refine Ev.congr (fun k => if_pos rfl) (Ev.bind (refs_ev (putS l v).1 (by omega) (okv_put hok hv)) (Ev.bind (alikeM_ev (putS l v).1 (by omega) (okv_put hok hv)) ?_))
  refine Ev.congr (fun k => by rw [if_pos rfl, if_pos rfl]) (Ev.bind (refs_ev (dropS l id).1 (by omega) (okv_drop hok)) (Ev.bind (alikeM_ev (dropS l id).1 (by omega) (okv_drop hok)) ?_))
  refine Ev.congr (f := fun _ => some true) (fun k => ?_) (Ev.now _)
  rw [if_pos rfl, beq_self_eq_true]
end Go.Proofs.Ytmpnaaegahjfkaa.Q
namespace Go.Proofs.Ytmpnaaegahjfkaa.Walks
open Go.RowKit Go.Proofs.Ytmpnaaegahjfkaa.Q Go.Proofs.YtmpnaaegahjfkaaW.PrintWords Go.Proofs.YtmpnaaegahjfkaaW.PrintLast Go.Proofs.YtmpnaaegahjfkaaW.PrintMore
set_option linter.unusedVariables false
theorem ChainPuts (W : World) (A0 : Option Addr) (c0 : Nat) (a0 : List S24) (l0 : a0.length ≤ c0) (C0 : Kd.C k24 W A0 a0.length a0) (g0 : (a0.length * 64 ≤ 140737488351232 ∧ ∀ y0 ∈ a0, ((Lit.int .i64 y0.f0).wf = true ∧ (True ∧ ((Lit.int .i64 y0.f2).wf = true ∧ (y0.f3.size ≤ 140737488351232 ∧ (y0.f4.length * 24 ≤ 140737488351232 ∧ ∀ y1 ∈ y0.f4, (y1.f0.size ≤ 140737488351232 ∧ (Lit.int .i64 y1.f1).wf = true)))))))) (cs1 : Array Value) (a1 : S24) (K1 : k24.K W a1 cs1.toList) (g1 : ((Lit.int .i64 a1.f0).wf = true ∧ (True ∧ ((Lit.int .i64 a1.f2).wf = true ∧ (a1.f3.size ≤ 140737488351232 ∧ (a1.f4.length * 24 ≤ 140737488351232 ∧ ∀ y0 ∈ a1.f4, (y0.f0.size ≤ 140737488351232 ∧ (Lit.int .i64 y0.f1).wf = true))))))) (a2 : Int) (g2 : (Lit.int .i64 a2).wf = true) :
    Calls Try.prog 4 #[.slice A0 a0.length c0, .agg cs1, .int .i64 a2] W fun e w' => e = .returned (.bool true) ∧ Below W.heap.size W w' := by
  obtain ⟨A4, c4, e, h4, g4⟩ := k24_open K1
  obtain rfl : cs1 = #[.int .i64 a1.f0, .bool a1.f1, .int .i64 a1.f2, .string a1.f3, .slice A4 a1.f4.length c4] := by cases cs1; simp at e; rw [e]
  obtain ⟨k, hk⟩ := (puts_ev a0 a1 a2 (by have := g0.1; omega) (fun v hv => okV_of (g0.2 v hv)) (okV_of g1)).rounds
  exact stowagelaw13_ChainPuts.calls k A0 c0 a0 a1.f0 a1.f1 a1.f2 a1.f3 A4 c4 a1.f4 a2 true W C0 l0 g4 h4 hk rfl
end Go.Proofs.Ytmpnaaegahjfkaa.Walks