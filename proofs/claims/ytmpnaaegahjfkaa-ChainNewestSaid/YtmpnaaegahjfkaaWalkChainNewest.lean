
/- ChainNewest answers true at every input. -/
import Derived.Test.YtmpnaaegahjfkaaPc
import Derived.Test.YtmpnaaegahjfkaaQx7
import Derived.Test.YtmpnaaegahjfkaaQx8
import Derived.Test.YtmpnaaegahjfkaaQx16
import Derived.Test.YtmpnaaegahjfkaaQx26
namespace Go.Proofs.Ytmpnaaegahjfkaa.Q
open Go.RowKit Go.Proofs.YtmpnaaegahjfkaaW.PrintWords Go.Proofs.YtmpnaaegahjfkaaW.PrintLast Go.Proofs.YtmpnaaegahjfkaaW.PrintMore
set_option linter.unusedVariables false
set_option linter.unusedSimpArgs false
theorem okV_of {v : S24} (hv : ((Lit.int .i64 v.f0).wf = true ∧ (True ∧ ((Lit.int .i64 v.f2).wf = true ∧ (v.f3.size ≤ 140737488351232 ∧ (v.f4.length * 24 ≤ 140737488351232 ∧ ∀ y1 ∈ v.f4, (y1.f0.size ≤ 140737488351232 ∧ (Lit.int .i64 y1.f1).wf = true))))))) : OkV v := ⟨Nat.le_trans hv.2.2.2.1 (by omega), by have := hv.2.2.2.2.1; omega, fun p hp => Nat.le_trans (hv.2.2.2.2.2 p hp).1 (by omega)⟩
/-! Put -/
def putBad (l : List S24) (v : S24) : Bool := !(rightS l) || !(chkV v == 0) || (decide (0 < l.length) && decide (v.f0 ≤ (l.getD 0 z24).f0))
def putS (l : List S24) (v : S24) : List S24 × Int := if putBad l v = true then ([], 1) else if l.length = 32 then ([], 131) else (v :: l, 0)
theorem put_j0 (l : List S24) (v : S24) (x : Bool) (hx : putBad l v = x) : Ev (fun k => chain_Put.j0 k l x v.f0 v.f1 v.f2 v.f3 v.f4) (putS l v) := by
  unfold putS
  cases x with
  | true =>
    rw [if_pos hx]
    exact Ev.step (f := fun _ => some ([], 1)) (fun k => by rw [chain_Put.j0, if_pos rfl]) (Ev.now _)
  | false =>
    rw [if_neg (by rw [hx]; simp)]
    unfold putBad at hx
    rw [Bool.or_eq_false_iff, Bool.or_eq_false_iff, Bool.not_eq_false', Bool.not_eq_false', beq_iff_eq] at hx
    have hR := hx.1.1
    have hC := hx.1.2
    have hl := (right_at hR).1
    by_cases h32 : l.length = 32
    · rw [if_pos h32]
      exact Ev.step (f := fun _ => some ([], 131)) (fun k => by rw [chain_Put.j0, if_neg (by simp), if_pos (by omega)]) (Ev.now _)
    · rw [if_neg h32]
      refine Ev.step (f := fun k => (chain_copied.f k l).bind fun t => if [v].length + t.length < 2199023255552 then some ([v] ++ t, 0) else none) (fun k => ?_) (Ev.bind (copied_ev l hl (fun q hq => chk_len (right_mem hR hq))) (Ev.congr (f := fun _ => some (v :: l, 0)) (fun k => ?_) (Ev.now _)))
      · rw [chain_Put.j0, if_neg (by simp), if_neg (by omega), own_some v (chk_len hC)]
        rfl
      · rw [if_pos (by simp; omega)]; rfl
theorem put_ev (l : List S24) (v : S24) (hl : l.length ≤ 2199023255551) (hok : ∀ v ∈ l, OkV v) (hv : OkV v) : Ev (fun k => chain_Put.f k l v.f0 v.f1 v.f2 v.f3 v.f4) (putS l v) := by
  unfold chain_Put.f
  refine Ev.bind (right_ev l (by omega) hok) ?_
  refine Ev.ite (fun hR => ?_) (fun hR => ?_)
  · refine Ev.bind (chkV_ev v hv) ?_
    refine Ev.ite (fun hC => ?_) (fun hC => ?_)
    · by_cases h0 : 0 < l.length
      · refine Ev.congr (f := fun k => chain_Put.j0 k l (decide (v.f0 ≤ (l.getD 0 z24).f0)) v.f0 v.f1 v.f2 v.f3 v.f4) (fun k => by rw [if_pos (by omega), if_pos (by omega)]; rfl) (put_j0 l v _ ?_)
        unfold putBad
        rw [hR, hC]
        simp [h0]
      · refine Ev.congr (f := fun k => chain_Put.j0 k l false v.f0 v.f1 v.f2 v.f3 v.f4) (fun k => by rw [if_neg (by omega)]) (put_j0 l v _ ?_)
        unfold putBad
        rw [hR, hC]
        simp [h0]
    · refine put_j0 l v _ ?_
      unfold putBad
      rw [show (chkV v == 0) = false from beq_eq_false_iff_ne.mpr hC]
      simp
  · refine put_j0 l v _ ?_
    unfold putBad
    rw [Bool.not_eq_true] at hR
    rw [hR]
    simp
theorem right_below {l : List S24} (h : rightS l = true) : ∀ (j : Nat), j < l.length → (l.getD j z24).f0 ≤ (l.getD 0 z24).f0
  | 0, _ => Int.le_refl _
  | j + 1, hj => by
    have h1 := right_below h j (by omega)
    have h2 := (right_at h).2.2 j hj
    omega
theorem rput_go (l : List S24) (v : S24) (hl : l.length ≤ 32) (hh : ∀ j, j < l.length → (l.getD j z24).f0 ≤ (l.getD 0 z24).f0) : ∀ (d i : Nat), i + d = l.length → (0 < i → (l.getD 0 z24).f0 < v.f0) →
    Ev (fun k => stowageref13_Put.l0 k (l.map m36) (i : Int) (m36 v).f0 (m36 v).f1 (m36 v).f2 (m36 v).f3 (m36 v).f4) (if 0 < l.length ∧ v.f0 ≤ (l.getD 0 z24).f0 then ([], 1) else if l.length = 32 then ([], 131) else (m36 v :: l.map m36, 0))
  | 0, i, h, hb => by
    have eL : ((l.map m36).length : Int) = (l.length : Int) := by rw [List.length_map]
    have hn : ¬ (0 < l.length ∧ v.f0 ≤ (l.getD 0 z24).f0) := fun e => by have := hb (by omega); omega
    rw [if_neg hn]
    by_cases h32 : l.length = 32
    · rw [if_pos h32]
      exact Ev.step (f := fun _ => some ([], 131)) (fun k => by rw [stowageref13_Put.l0, eL, if_neg (by omega), if_pos (by omega)]) (Ev.now _)
    · rw [if_neg h32]
      refine Ev.step (f := fun _ => some (m36 v :: l.map m36, 0)) (fun k => ?_) (Ev.now _)
      rw [stowageref13_Put.l0, eL, if_neg (by omega), if_neg (by omega), Option.bind_some, if_pos (by rw [List.length_map]; simp; omega)]
      rfl
  | d + 1, i, h, hb => by
    have eL : ((l.map m36).length : Int) = (l.length : Int) := by rw [List.length_map]
    have hi : i < l.length := by omega
    have e1 : ((l.map m36).getD i z36).f0 = (l.getD i z24).f0 := by rw [getD_map36 l i hi]; rfl
    have hle := hh i hi
    by_cases hge : (l.getD i z24).f0 ≥ v.f0
    · rw [if_pos ⟨by omega, by omega⟩]
      refine Ev.step (f := fun _ => some ([], 1)) (fun k => ?_) (Ev.now _)
      rw [stowageref13_Put.l0, eL, if_pos (by omega), if_pos (by omega), rd36, e1, if_pos (show (l.getD i z24).f0 ≥ (m36 v).f0 from hge)]
    · refine Ev.step (fun k => ?_) (rput_go l v hl hh d (i + 1) (by omega) (fun _ => ?_))
      · rw [stowageref13_Put.l0, eL, if_pos (by omega), if_pos (by omega), rd36, e1, if_neg (show ¬ (l.getD i z24).f0 ≥ (m36 v).f0 from hge), w1 i (by omega)]
      · by_cases h0 : i = 0
        · rw [h0] at hge; omega
        · exact hb (by omega)
theorem putBad_iff {l : List S24} {v : S24} (hR : rightS l = true) (hC : chkV v = 0) : putBad l v = true ↔ 0 < l.length ∧ v.f0 ≤ (l.getD 0 z24).f0 := by
  unfold putBad
  rw [hR, show (chkV v == 0) = true from beq_iff_eq.mpr hC, Bool.not_true, Bool.false_or, Bool.false_or, Bool.and_eq_true, decide_eq_true_iff, decide_eq_true_iff]
theorem rput_ev (l : List S24) (v : S24) (hl : l.length ≤ 2199023255551) (hok : ∀ v ∈ l, OkV v) (hv : OkV v) : Ev (fun k => stowageref13_Put.f k (l.map m36) (m36 v).f0 (m36 v).f1 (m36 v).f2 (m36 v).f3 (m36 v).f4) ((putS l v).1.map m36, (putS l v).2) := by
  have bad : putBad l v = true → ((putS l v).1.map m36, (putS l v).2) = (([] : List S36), (1 : Int)) := fun h => by unfold putS; rw [if_pos h]; rfl
  unfold stowageref13_Put.f
  refine Ev.bind (may36_ev l (by omega) hok) ?_
  refine Ev.ite (fun hR => ?_) (fun hR => ?_)
  · refine Ev.bind (chk36_ev v hv) ?_
    by_cases hC : chkV v = 0
    · rw [show (chkV v != 0) = false by simp [hC]]
      have hG := rput_go l v (right_at hR).1 (right_below hR) l.length 0 (by omega) (fun h => by omega)
      have e : (if 0 < l.length ∧ v.f0 ≤ (l.getD 0 z24).f0 then ([], 1) else if l.length = 32 then ([], 131) else (m36 v :: l.map m36, 0)) = ((putS l v).1.map m36, (putS l v).2) := by
        have hI := putBad_iff hR hC
        unfold putS
        by_cases h1 : 0 < l.length ∧ v.f0 ≤ (l.getD 0 z24).f0
        · rw [if_pos h1, if_pos (hI.2 h1)]; rfl
        · rw [if_neg h1, if_neg (fun e => h1 (hI.1 e))]
          by_cases h2 : l.length = 32
          · rw [if_pos h2, if_pos h2]; rfl
          · rw [if_neg h2, if_neg h2]; rfl
      rw [e] at hG
      exact Ev.step (fun k => by rw [stowageref13_Put.j0, if_neg (by simp)]; rfl) hG
    · rw [show (chkV v != 0) = true by simp [hC], bad (by unfold putBad; rw [show (chkV v == 0) = false from beq_eq_false_iff_ne.mpr hC]; simp)]
      exact Ev.step (f := fun _ => some ([], 1)) (fun k => by rw [stowageref13_Put.j0, if_pos rfl]) (Ev.now _)
  · rw [bad (by unfold putBad; rw [Bool.not_eq_true] at hR; rw [hR]; simp)]
    exact Ev.step (f := fun _ => some ([], 1)) (fun k => by rw [stowageref13_Put.j0, if_pos rfl]) (Ev.now _)
/-! Drop -/
def dropS (l : List S24) (id : Int) : List S24 × Int := if rightS l = true then (if atF l id < 0 then ([], 4) else (l.take (atF l id).toNat ++ l.drop ((atF l id).toNat + 1), 0)) else ([], 1)
theorem drop_ev (l : List S24) (id : Int) (hl : l.length ≤ 2199023255551) (hok : ∀ v ∈ l, OkV v) : Ev (fun k => chain_Drop.f k l id) (dropS l id) := by
  unfold chain_Drop.f dropS
  refine Ev.bind (right_ev l (by omega) hok) ?_
  by_cases hR : rightS l = true
  · simp only [hR, if_true]
    by_cases h0 : atF l id < 0
    · simp only [h0, if_true]; exact Ev.now _
    · simp only [h0, if_false]
      refine Ev.bind (copied_ev l (right_at hR).1 (fun q hq => chk_len (right_mem hR hq))) ?_
      exact Ev.congr (fun k => if_pos (by omega)) (Ev.now _)
  · simp only [hR]; exact Ev.now _
theorem atF_cons (v : S24) (l : List S24) (id : Int) : atF (v :: l) id = if v.f0 = id then 0 else (if atF l id < 0 then -1 else atF l id + 1) := by
  unfold atF
  rw [List.findIdx?_cons]
  by_cases h : v.f0 = id
  · rw [if_pos h, if_pos (by simp [h])]; rfl
  · rw [if_neg h, if_neg (by simp [h])]
    cases hq : List.findIdx? (fun v => v.f0 == id) l with
    | none => rfl
    | some j => simp only [Option.map_some]; rw [if_neg (by omega)]; omega
theorem atF_ge (l : List S24) (id : Int) : -1 ≤ atF l id ∧ atF l id < l.length := by
  unfold atF
  cases hq : List.findIdx? (fun v => v.f0 == id) l with
  | none => simp only []; omega
  | some j => have := (List.findIdx?_eq_some_iff_getElem.1 hq).1; simp only []; omega
def Falls (l : List S24) : Prop := l.Pairwise (fun a b => b.f0 < a.f0)
theorem falls_of : ∀ {l : List S24}, (∀ j, j + 1 < l.length → (l.getD (j + 1) z24).f0 < (l.getD j z24).f0) → Falls l
  | [], _ => List.Pairwise.nil
  | [a], _ => by unfold Falls; simp
  | a :: b :: l, h => by
    have h1 : Falls (b :: l) := falls_of (fun j hj => h (j + 1) (by simp only [List.length_cons] at hj ⊢; omega))
    have h0 : b.f0 < a.f0 := h 0 (by simp)
    refine List.Pairwise.cons (fun x hx => ?_) h1
    rcases List.mem_cons.1 hx with rfl | hx
    · exact h0
    · have := (List.pairwise_cons.1 h1).1 x hx
      omega
theorem filter_ne : ∀ {l : List S24} {id : Int}, Falls l → l.filter (fun v => !(v.f0 == id)) = if atF l id < 0 then l else l.take (atF l id).toNat ++ l.drop ((atF l id).toNat + 1)
  | [], id, _ => rfl
  | v :: l, id, h => by
    have h2 := List.pairwise_cons.1 h
    rw [atF_cons, List.filter_cons]
    by_cases hv : v.f0 = id
    · rw [if_pos hv, if_neg (by simp [hv]), if_neg (by omega)]
      have : l.filter (fun v => !(v.f0 == id)) = l := List.filter_eq_self.2 (fun x hx => by have := h2.1 x hx; simp; omega)
      rw [this]; rfl
    · rw [if_neg hv, if_pos (by simp [hv]), filter_ne h2.2]
      have hg := (atF_ge l id).1
      by_cases ha : atF l id < 0
      · rw [if_pos ha, if_pos ha, if_pos (by omega)]
      · rw [if_neg ha, if_neg ha, if_neg (by omega)]
        have e : (atF l id + 1).toNat = (atF l id).toNat + 1 := by omega
        rw [e]; rfl
theorem rdrop_go (l : List S24) (id : Int) (hl : l.length ≤ 32) : ∀ (t : List S24) (i : Nat) (out : List S36), l.drop i = t → i ≤ l.length → out = ((l.take i).filter (fun v => !(v.f0 == id))).map m36 →
    Ev (fun k => stowageref13_Drop.l0 k (l.map m36) id out (i : Int)) (if (l.filter (fun v => !(v.f0 == id))).length = l.length then ([], 4) else ((l.filter (fun v => !(v.f0 == id))).map m36, 0))
  | [], i, out, ht, hi, ho => by
    have hge : l.length ≤ i := by have := congrArg List.length ht; simp at this; omega
    have eL : ((l.map m36).length : Int) = (l.length : Int) := by rw [List.length_map]
    rw [List.take_of_length_le hge] at ho
    have eo : out.length = (l.filter (fun v => !(v.f0 == id))).length := by rw [ho, List.length_map]
    rw [← eo, ← ho]
    by_cases h : out.length = l.length
    · rw [if_pos h]
      exact Ev.step (f := fun _ => some ([], 4)) (fun k => by rw [stowageref13_Drop.l0, eL, if_neg (by omega), if_pos (by omega)]) (Ev.now _)
    · rw [if_neg h]
      exact Ev.step (f := fun _ => some (out, 0)) (fun k => by rw [stowageref13_Drop.l0, eL, if_neg (by omega), if_neg (by omega)]) (Ev.now _)
  | p :: t, i, out, ht, hi, ho => by
    have hlt : i < l.length := by have := congrArg List.length ht; simp at this; omega
    have e := List.drop_eq_getElem_cons hlt
    rw [ht] at e
    injection e with e1 e2
    have eL : ((l.map m36).length : Int) = (l.length : Int) := by rw [List.length_map]
    have eg : (l.map m36).getD i z36 = m36 p := by rw [getD_map36 l i hlt, List.getD_eq_getElem?_getD, List.getElem?_eq_getElem hlt, e1]; rfl
    have et : l.take (i + 1) = l.take i ++ [p] := by rw [List.take_succ_eq_append_getElem hlt, e1]
    by_cases hp : p.f0 = id
    · refine Ev.step (fun k => ?_) (rdrop_go l id hl t (i + 1) out e2.symm (by omega) (by rw [et, List.filter_append, List.filter_cons, if_neg (by simp [hp])]; simp [ho]))
      rw [stowageref13_Drop.l0, eL, if_pos (by omega), if_pos (by omega), rd36, eg, if_pos (show (m36 p).f0 = id from hp), w1 i (by omega)]
    · refine Ev.step (fun k => ?_) (rdrop_go l id hl t (i + 1) (out ++ [m36 p]) e2.symm (by omega) (by rw [et, List.filter_append, List.filter_cons, if_pos (by simp [hp])]; simp [ho]))
      have hlen : out.length ≤ l.length := by
        rw [ho, List.length_map]
        exact Nat.le_trans (List.length_filter_le _ _) (by rw [List.length_take]; omega)
      rw [stowageref13_Drop.l0, eL, if_pos (by omega), if_pos (by omega), rd36, eg, if_neg (show ¬ (m36 p).f0 = id from hp), if_pos (by omega), w1 i (by omega)]
theorem rdrop_ev (l : List S24) (id : Int) (hl : l.length ≤ 2199023255551) (hok : ∀ v ∈ l, OkV v) : Ev (fun k => stowageref13_Drop.f k (l.map m36) id) ((dropS l id).1.map m36, (dropS l id).2) := by
  unfold stowageref13_Drop.f dropS
  refine Ev.bind (may36_ev l (by omega) hok) ?_
  by_cases hR : rightS l = true
  · simp only [hR, if_true]
    have hG := rdrop_go l id (right_at hR).1 l 0 [] rfl (by omega) (by simp)
    rw [filter_ne (falls_of (right_at hR).2.2)] at hG
    by_cases h0 : atF l id < 0
    · simp only [h0, if_true] at hG ⊢
      exact hG
    · simp only [h0, if_false] at hG ⊢
      have hb := atF_ge l id
      rw [if_neg (by rw [List.length_append, List.length_take, List.length_drop]; omega)] at hG
      exact hG
  · simp only [hR]; exact Ev.now _
theorem okv_drop {l : List S24} {id : Int} (hok : ∀ v ∈ l, OkV v) : ∀ v ∈ (dropS l id).1, OkV v := by
  intro v hv
  unfold dropS at hv
  split at hv
  · split at hv
    · cases hv
    · rcases List.mem_append.1 hv with h | h
      · exact hok v (List.mem_of_mem_take h)
      · exact hok v (List.mem_of_mem_drop h)
  · cases hv
theorem len_drop (l : List S24) (id : Int) : (dropS l id).1.length ≤ l.length := by
  unfold dropS
  split
  · split
    · simp
    · simp only [List.length_append, List.length_take, List.length_drop]; have := atF_ge l id; omega
  · simp
theorem okv_put {l : List S24} {v : S24} (hok : ∀ v ∈ l, OkV v) (hv : OkV v) : ∀ q ∈ (putS l v).1, OkV q := by
  intro q hq
  unfold putS at hq
  split at hq
  · cases hq
  · split at hq
    · cases hq
    · rcases List.mem_cons.1 hq with rfl | h
      · exact hv
      · exact hok q h
theorem len_put (l : List S24) (v : S24) : (putS l v).1.length ≤ l.length + 1 := by
  unfold putS
  split
  · simp
  · split
    · simp
    · simp
/-! Latest, Find, Ids -/
def nil24 (e : Int) : Int × Bool × Int × ByteArray × List S72 × Int := (0, false, 0, (⟨#[]⟩ : ByteArray), ([] : List S72), e)
def give (v : S24) : Int × Bool × Int × ByteArray × List S72 × Int := (v.f0, v.f1, v.f2, v.f3, v.f4, 0)
def mR (r : Int × Bool × Int × ByteArray × List S72 × Int) : Int × Bool × Int × ByteArray × List S74 × Int := (r.1, r.2.1, r.2.2.1, r.2.2.2.1, r.2.2.2.2.1.map m74, r.2.2.2.2.2)
def latestS (l : List S24) : Int × Bool × Int × ByteArray × List S72 × Int := if rightS l = true then (if l.length = 0 then nil24 4 else if (l.getD 0 z24).f1 = true then nil24 130 else give (l.getD 0 z24)) else nil24 1
theorem latest_ev (l : List S24) (hl : l.length ≤ 2199023255551) (hok : ∀ v ∈ l, OkV v) : Ev (fun k => chain_Latest.f k l) (latestS l) := by
  unfold chain_Latest.f latestS
  refine Ev.bind (right_ev l (by omega) hok) ?_
  by_cases hR : rightS l = true
  · simp only [hR, if_true]
    by_cases h0 : l.length = 0
    · simp only [h0, if_true]
      exact Ev.congr (fun k => if_pos rfl) (Ev.now _)
    · rw [if_neg h0]
      by_cases h1 : (l.getD 0 z24).f1 = true
      · rw [if_pos h1]
        refine Ev.congr (f := fun _ => some (nil24 130)) (fun k => ?_) (Ev.now _)
        rw [if_neg (by omega), if_pos (by omega), if_pos (show (rd_T24 l 0).f1 = true from h1)]
        rfl
      · rw [if_neg h1]
        refine Ev.congr (f := fun _ => some (give (l.getD 0 z24))) (fun k => ?_) (Ev.now _)
        rw [if_neg (by omega), if_pos (by omega), if_neg (show ¬ (rd_T24 l 0).f1 = true from h1), show rd_T24 l 0 = l.getD 0 z24 from rfl, own_some _ (chk_len (right_mem hR (mem_getD l 0 (by omega))))]
        rfl
  · simp only [hR]; exact Ev.now _
def findS (l : List S24) (id : Int) : Int × Bool × Int × ByteArray × List S72 × Int := if rightS l = true then (if 0 ≤ atF l id then give (l.getD (atF l id).toNat z24) else nil24 4) else nil24 1
theorem find_ev (l : List S24) (id : Int) (hl : l.length ≤ 2199023255551) (hok : ∀ v ∈ l, OkV v) : Ev (fun k => chain_Find.f k l id) (findS l id) := by
  unfold chain_Find.f findS
  refine Ev.bind (right_ev l (by omega) hok) ?_
  have hb := atF_ge l id
  by_cases hR : rightS l = true
  · simp only [hR, if_true]
    by_cases h0 : 0 ≤ atF l id
    · rw [if_pos h0]
      refine Ev.congr (f := fun _ => some (give (l.getD (atF l id).toNat z24))) (fun k => ?_) (Ev.now _)
      unfold chain_at.f
      rw [Option.bind_some, if_pos h0, if_pos h0, if_pos hb.2, show rd_T24 l (atF l id) = l.getD (atF l id).toNat z24 from rfl, own_some _ (chk_len (right_mem hR (mem_getD l _ (by omega))))]
      rfl
    · rw [if_neg h0]
      refine Ev.congr (f := fun _ => some (nil24 4)) (fun k => ?_) (Ev.now _)
      unfold chain_at.f
      rw [Option.bind_some, if_neg h0]
      rfl
  · simp only [hR]; exact Ev.now _
theorem atF_step {l : List S24} {id : Int} {i : Nat} (hi : i < l.length) : atF (l.drop i) id = if (l.getD i z24).f0 = id then 0 else (if atF (l.drop (i + 1)) id < 0 then -1 else atF (l.drop (i + 1)) id + 1) := by
  rw [List.drop_eq_getElem_cons hi, atF_cons, List.getD_eq_getElem?_getD, List.getElem?_eq_getElem hi]; rfl
def idsOf (l : List S24) : List ByteArray := l.flatMap (fun v => v.f4.map (·.f0))
def idsS (l : List S24) : List ByteArray := if rightS l = true then idsOf l else []
theorem Ev.ifp {α : Type} {c : Prop} [Decidable c] {f : Nat → Option α} {r : α} (h : c) (hf : Ev f r) : Ev (fun k => if c then f k else none) r := Ev.congr (fun k => if_pos h) hf
/-! what was put last is the latest -/
theorem falls_at {l : List S24} (h : Falls l) : ∀ i j, i < j → j < l.length → (l.getD j z24).f0 < (l.getD i z24).f0 := by
  intro i j hij hj
  have := (List.pairwise_iff_getElem.1 h) i j (by omega) hj hij
  rw [List.getD_eq_getElem?_getD, List.getElem?_eq_getElem hj, List.getD_eq_getElem?_getD, List.getElem?_eq_getElem (by omega)]
  exact this
theorem right_iff {l : List S24} : rightS l = true ↔ l.length ≤ 32 ∧ (∀ v ∈ l, chkV v = 0) ∧ Falls l := by
  constructor
  · intro h
    exact ⟨(right_at h).1, fun v hv => right_mem h hv, falls_of (right_at h).2.2⟩
  · intro h
    unfold rightS
    rw [Bool.and_eq_true, decide_eq_true_iff, List.all_eq_true]
    refine ⟨fun j hj => ?_, h.1⟩
    rw [List.mem_range'_1] at hj
    unfold goodAt
    rw [Bool.and_eq_true, beq_iff_eq, Bool.or_eq_true, decide_eq_true_iff, decide_eq_true_iff]
    refine ⟨h.2.1 _ (mem_getD l j (by omega)), ?_⟩
    by_cases h0 : j = 0
    · exact Or.inl h0
    · exact Or.inr (falls_at h.2.2 (j - 1) j (by omega) (by omega))
theorem atF_at {l : List S24} (h : Falls l) {j : Nat} (hj : j < l.length) : atF l (l.getD j z24).f0 = (j : Int) := by
  refine atF_found hj (fun i hi => ?_) (beq_self_eq_true _)
  have := falls_at h i j hi hj
  exact beq_eq_false_iff_ne.mpr (by omega)
def mOf (c : List S24) : List S36 := c.reverse.map m36
theorem mOf_len (c : List S24) : (mOf c).length = c.length := by unfold mOf; rw [List.length_map, List.length_reverse]
theorem mOf_at (c : List S24) (j : Nat) (hj : j < c.length) : rd_T36 (mOf c) (j : Int) = m36 (c.getD (c.length - 1 - j) z24) := by
  have hj2 : j < c.reverse.length := by rw [List.length_reverse]; exact hj
  show (c.reverse.map m36).getD j z36 = _
  rw [getD_map36 c.reverse j hj2]
  congr 1
  rw [List.getD_eq_getElem?_getD, List.getElem?_reverse hj, List.getD_eq_getElem?_getD]
structure Inv (c : List S24) : Prop where
  right : rightS c = true
  ok : ∀ v ∈ c, OkV v
theorem put_ok {c : List S24} {v : S24} (h : (putS c v).2 = 0) : (putS c v).1 = v :: c ∧ rightS (v :: c) = true := by
  unfold putS at h ⊢
  by_cases hb : putBad c v = true
  · rw [if_pos hb] at h; exact absurd h (by decide)
  · rw [if_neg hb] at h ⊢
    by_cases h32 : c.length = 32
    · rw [if_pos h32] at h; exact absurd h (by decide)
    · rw [if_neg h32]
      refine ⟨rfl, right_iff.2 ?_⟩
      have hx := Bool.eq_false_iff.mpr hb
      unfold putBad at hx
      rw [Bool.or_eq_false_iff, Bool.or_eq_false_iff, Bool.not_eq_false', Bool.not_eq_false', beq_iff_eq] at hx
      obtain ⟨g1, g2, g3⟩ := right_iff.1 hx.1.1
      refine ⟨by rw [List.length_cons]; omega, fun q hq => ?_, List.pairwise_cons.2 ⟨fun q hq => ?_, g3⟩⟩
      · rcases List.mem_cons.1 hq with rfl | hq
        · exact hx.1.2
        · exact g2 q hq
      · have h2 := hx.2
        rw [Bool.and_eq_false_iff, decide_eq_false_iff_not, decide_eq_false_iff_not] at h2
        have hpos : 0 < c.length := List.length_pos_of_mem hq
        have h3 := h2.resolve_left (by omega)
        obtain ⟨j, hj, rfl⟩ := List.mem_iff_getElem.1 hq
        have h4 := right_below hx.1.1 j hj
        rw [List.getD_eq_getElem?_getD, List.getElem?_eq_getElem hj] at h4
        simp only [Option.getD_some] at h4
        omega
theorem erase_inv {c : List S24} (h : Inv c) (i : Nat) : Inv (c.take i ++ c.drop (i + 1)) := by
  obtain ⟨g1, g2, g3⟩ := right_iff.1 h.right
  have hs : (c.take i ++ c.drop (i + 1)).Sublist c := by
    have := (List.Sublist.refl (c.take i)).append (List.drop_sublist 1 (c.drop i))
    rw [List.take_append_drop, List.drop_drop] at this
    exact this
  exact ⟨right_iff.2 ⟨by have := hs.length_le; omega, fun v hv => g2 v (hs.subset hv), g3.sublist hs⟩, fun v hv => h.ok v (hs.subset hv)⟩
theorem mOf_erase (c : List S24) (j : Nat) (hj : j < c.length) : mOf (c.take (c.length - 1 - j) ++ c.drop (c.length - 1 - j + 1)) = (mOf c).take j ++ (mOf c).drop (j + 1) := by
  unfold mOf
  rw [List.reverse_append, List.map_append, List.reverse_drop, List.reverse_take, ← List.map_take, ← List.map_drop]
  rw [show c.length - (c.length - 1 - j + 1) = j by omega, show c.length - (c.length - 1 - j) = j + 1 by omega]
theorem new_go (l : List S24) (ds : List Int) (hl : l.length ≤ 2199023255551) (hds : ds.length ≤ 20000000000000) (hok : ∀ v ∈ l, OkV v) : ∀ (d i : Nat) (c : List S24), i + d = l.length → Inv c → Ev (fun k => stowagelaw13_ChainNewest.l0 k l ds c (mOf c) (i : Int)) true
  | 0, i, c, h, hI => by
    refine Ev.step (f := fun k => stowagelaw13_ChainNewest.j1 k l ds c (mOf c) (i : Int) false) (fun k => by rw [stowagelaw13_ChainNewest.l0, if_neg (by omega)]) ?_
    exact Ev.step (f := fun _ => some true) (fun k => by rw [stowagelaw13_ChainNewest.j1, if_neg (by simp)]) (Ev.now _)
  | d + 1, i, c, h, hI => by
    have hi : i < l.length := by omega
    have NEXT : ∀ c', Inv c' → Ev (fun k => stowagelaw13_ChainNewest.l0 k l ds c' (mOf c') (wrap64 ((i : Int) + 1))) true := fun c' h' => by
      rw [w1 i (by omega)]; exact new_go l ds hl hds hok d (i + 1) c' (by omega) h'
    -- the end of a round
    have L1 : ∀ c', Inv c' → Ev (fun k => stowagelaw13_ChainNewest.l1 k l ds c' (mOf c') (i : Int) ((c'.length : Nat) : Int)) true := by
      intro c' h'
      have hlen := mOf_len c'
      have h32 := (right_at h'.right).1
      have hLat := latest_ev c' (by omega) h'.ok
      unfold latestS at hLat
      rw [if_pos h'.right] at hLat
      have r1 : ∀ k, stowagelaw13_ChainNewest.l1 (k + 1) l ds c' (mOf c') (i : Int) ((c'.length : Nat) : Int) = _ := fun k => by rw [stowagelaw13_ChainNewest.l1, if_neg (by omega)]
      refine Ev.step r1 (Ev.bind hLat ?_)
      by_cases h0 : c'.length = 0
      · rw [if_pos h0]
        refine Ev.congr (fun k => by rw [if_pos (by omega)]; exact if_pos rfl) (NEXT c' h')
      · rw [if_neg h0]
        have e1 : wrap64 (((mOf c').length : Int) - 1) = ((c'.length - 1 : Nat) : Int) := by rw [hlen]; exact wm1 _ (by omega) (by omega)
        have e2 := mOf_at c' (c'.length - 1) (by omega)
        rw [show c'.length - 1 - (c'.length - 1) = 0 by omega] at e2
        rw [e1, e2]
        have hOk := h'.ok _ (mem_getD c' 0 (by omega))
        by_cases hm : (c'.getD 0 z24).f1 = true
        · rw [if_pos hm]
          refine Ev.congr (fun k => by rw [if_neg (by omega), if_pos (by omega), if_pos (by omega), if_neg (by rw [show (m36 (c'.getD 0 z24)).f1 = true from hm]; decide)]; exact if_pos hm) (NEXT c' h')
        · rw [if_neg hm]
          have hf : (m36 (c'.getD 0 z24)).f1 = false := Bool.eq_false_iff.mpr hm
          refine Ev.congr (fun k => by rw [if_neg (by omega), if_pos (by omega), if_pos (by omega), if_neg (by rw [hf]; simp [give])]) ?_
          refine Ev.congr (fun k => if_neg (by rw [hf]; simp)) ?_
          refine Ev.congr (fun k => if_pos rfl) ?_
          refine Ev.bind (ref_ev _ _ _ _ _ hOk.len) ?_
          refine Ev.bind (same_ev _ _ _ _ _ (map74_len _ hOk.len)) ?_
          exact Ev.congr (fun k => if_pos rfl) (NEXT c' h')
    have FIND : ∀ c', Inv c' → ∀ (q j : Nat), j + q = c'.length → Ev (fun k => stowagelaw13_ChainNewest.l1 k l ds c' (mOf c') (i : Int) (j : Int)) true := by
      intro c' h' q
      induction q with
      | zero => intro j hj; obtain rfl : j = c'.length := by omega
                exact L1 c' h'
      | succ q ih =>
        intro j hj
        have hlen := mOf_len c'
        have h32 := (right_at h'.right).1
        obtain ⟨_, _, hF⟩ := right_iff.1 h'.right
        have e2 := mOf_at c' j (by omega)
        have hOk := h'.ok _ (mem_getD c' (c'.length - 1 - j) (by omega))
        have hFi := find_ev c' (c'.getD (c'.length - 1 - j) z24).f0 (by omega) h'.ok
        unfold findS at hFi
        rw [if_pos h'.right, atF_at hF (by omega), if_pos (by omega), Int.toNat_natCast] at hFi
        have r1 : ∀ k, stowagelaw13_ChainNewest.l1 (k + 1) l ds c' (mOf c') (i : Int) (j : Int) = _ := fun k => by rw [stowagelaw13_ChainNewest.l1, if_pos (by omega), if_pos (by omega), e2, w1 j (by omega)]
        refine Ev.step r1 (Ev.bind hFi ?_)
        refine Ev.congr (fun k => if_pos rfl) (Ev.bind (ref_ev _ _ _ _ _ hOk.len) (Ev.bind (same_ev _ _ _ _ _ (map74_len _ hOk.len)) ?_))
        exact Ev.congr (fun k => if_pos rfl) (ih (j + 1) (by omega))
    have J4 : ∀ c', Inv c' → Ev (fun k => stowagelaw13_ChainNewest.j4 k l ds c' (mOf c') (i : Int)) true := by
      intro c' h'
      have hlen := mOf_len c'
      refine Ev.step (f := fun k => stowagelaw13_ChainNewest.l1 k l ds c' (mOf c') (i : Int) ((0 : Nat) : Int)) (fun k => by rw [stowagelaw13_ChainNewest.j4, if_pos (by omega)]; rfl) (FIND c' h' c'.length 0 (by omega))
    have J3 : ∀ c', Inv c' → ∀ x : Bool, (x = true → i < ds.length ∧ 0 ≤ rd ds (i : Int) ∧ rd ds (i : Int) < (c'.length : Int)) → Ev (fun k => stowagelaw13_ChainNewest.j3 k l ds c' (mOf c') (i : Int) x) true := by
      intro c' h' x hx
      cases x with
      | false => exact Ev.step (fun k => by rw [stowagelaw13_ChainNewest.j3, if_neg (by simp)]) (J4 c' h')
      | true =>
        obtain ⟨x1, x2, x3⟩ := hx rfl
        have hlen := mOf_len c'
        have h32 := (right_at h'.right).1
        obtain ⟨_, _, hF⟩ := right_iff.1 h'.right
        obtain ⟨j, hj⟩ := Int.eq_ofNat_of_zero_le x2
        have e2 := mOf_at c' j (by omega)
        have hD := drop_ev c' (c'.getD (c'.length - 1 - j) z24).f0 (by omega) h'.ok
        unfold dropS at hD
        rw [if_pos h'.right, atF_at hF (by omega), if_neg (by omega), Int.toNat_natCast] at hD
        have hE := J4 _ (erase_inv h' (c'.length - 1 - j))
        rw [mOf_erase c' j (by omega)] at hE
        have r1 : ∀ k, stowagelaw13_ChainNewest.j3 (k + 1) l ds c' (mOf c') (i : Int) true = _ := fun k => by rw [stowagelaw13_ChainNewest.j3, if_pos rfl, if_pos (by omega), if_pos (by omega), if_pos x2, if_pos (by omega), hj, e2]
        refine Ev.step r1 (Ev.bind hD ?_)
        refine Ev.congr (fun k => ?_) hE
        have t1 : ((mOf c').take j).length = j := by rw [List.length_take]; omega
        have t2 : ((mOf c').drop (j + 1)).length ≤ 32 := by rw [List.length_drop]; omega
        rw [if_pos rfl, Option.bind_some, if_pos (by omega), Option.bind_some, Int.toNat_natCast, List.nil_append, List.length_nil, if_pos (by omega), Option.bind_some, w1 j (by omega), if_pos (by omega), if_pos (by omega), Option.bind_some, Int.toNat_natCast, if_pos (by omega)]
    have J2 : ∀ c', Inv c' → Ev (fun k => stowagelaw13_ChainNewest.j2 k l ds c' (mOf c') (i : Int)) true := by
      intro c' h'
      have hlen := mOf_len c'
      by_cases a1 : i < ds.length
      · by_cases a2 : 0 < c'.length
        · by_cases a3 : rd ds (i : Int) ≥ 0
          · refine Ev.step (fun k => ?_) (J3 c' h' (decide (rd ds (i : Int) < ((mOf c').length : Int))) (fun hx => ⟨a1, a3, by rw [decide_eq_true_iff] at hx; omega⟩))
            rw [stowagelaw13_ChainNewest.j2, if_pos (by omega), if_pos (by omega), if_pos (by omega), if_pos a3]
          · refine Ev.step (fun k => ?_) (J3 c' h' false (fun hx => absurd hx (by simp)))
            rw [stowagelaw13_ChainNewest.j2, if_pos (by omega), if_pos (by omega), if_pos (by omega), if_neg a3]
        · refine Ev.step (fun k => ?_) (J3 c' h' false (fun hx => absurd hx (by simp)))
          rw [stowagelaw13_ChainNewest.j2, if_pos (by omega), if_neg (by omega)]
      · refine Ev.step (fun k => ?_) (J3 c' h' false (fun hx => absurd hx (by simp)))
        rw [stowagelaw13_ChainNewest.j2, if_neg (by omega)]
    -- the round
    refine Ev.step (f := fun k => stowagelaw13_ChainNewest.j1 k l ds c (mOf c) (i : Int) (decide ((i : Int) < 40))) (fun k => by rw [stowagelaw13_ChainNewest.l0, if_pos (by omega)]) ?_
    by_cases h40 : (i : Int) < 40
    · rw [decide_eq_true h40]
      have hV := hok _ (mem_getD l i hi)
      have hlen := mOf_len c
      have h32 := (right_at hI.right).1
      have hP := put_ev c (l.getD i z24) (by omega) hI.ok hV
      have r1 : ∀ k, stowagelaw13_ChainNewest.j1 (k + 1) l ds c (mOf c) (i : Int) true = _ := fun k => by rw [stowagelaw13_ChainNewest.j1, if_pos rfl, if_pos (by omega), if_pos (by omega), rd24]
      refine Ev.step r1 (Ev.bind hP ?_)
      by_cases h0 : (putS c (l.getD i z24)).2 = 0
      · obtain ⟨q1, q2⟩ := put_ok h0
        refine Ev.congr (fun k => if_pos h0) (Ev.bind (ref_ev _ _ _ _ _ hV.len) ?_)
        refine Ev.ifp (by omega) ?_
        rw [q1]
        have hI2 : Inv (l.getD i z24 :: c) := ⟨q2, fun v hv => by
          rcases List.mem_cons.1 hv with rfl | hv
          · exact hV
          · exact hI.ok v hv⟩
        have := J2 _ hI2
        unfold mOf at this ⊢
        rw [List.reverse_cons, List.map_append] at this
        exact this
      · exact Ev.congr (fun k => if_neg h0) (J2 c hI)
    · rw [decide_eq_false h40]
      exact Ev.step (f := fun _ => some true) (fun k => by rw [stowagelaw13_ChainNewest.j1, if_neg (by simp)]) (Ev.now _)
theorem newest_ev (l : List S24) (ds : List Int) (hl : l.length ≤ 2199023255551) (hds : ds.length ≤ 20000000000000) (hok : ∀ v ∈ l, OkV v) : Ev (fun k => stowagelaw13_ChainNewest.f k l ds) true := by
  unfold stowagelaw13_ChainNewest.f
  refine Ev.bind awake_ev ?_
  exact Ev.congr (fun k => if_pos rfl) (new_go l ds hl hds hok l.length 0 [] (by omega) ⟨by decide, by simp⟩)
end Go.Proofs.Ytmpnaaegahjfkaa.Q
namespace Go.Proofs.Ytmpnaaegahjfkaa.Walks
open Go.RowKit Go.Proofs.Ytmpnaaegahjfkaa.Q Go.Proofs.YtmpnaaegahjfkaaW.PrintWords Go.Proofs.YtmpnaaegahjfkaaW.PrintLast Go.Proofs.YtmpnaaegahjfkaaW.PrintMore
set_option linter.unusedVariables false
theorem ChainNewest (W : World) (A0 : Option Addr) (c0 : Nat) (a0 : List S24) (l0 : a0.length ≤ c0) (C0 : Kd.C k24 W A0 a0.length a0) (g0 : (a0.length * 64 ≤ 140737488351232 ∧ ∀ y0 ∈ a0, ((Lit.int .i64 y0.f0).wf = true ∧ (True ∧ ((Lit.int .i64 y0.f2).wf = true ∧ (y0.f3.size ≤ 140737488351232 ∧ (y0.f4.length * 24 ≤ 140737488351232 ∧ ∀ y1 ∈ y0.f4, (y1.f0.size ≤ 140737488351232 ∧ (Lit.int .i64 y1.f1).wf = true)))))))) (A1 : Option Addr) (c1 : Nat) (a1 : List Int) (l1 : a1.length ≤ c1) (C1 : Kd.C (Kd.int .i64) W A1 a1.length a1) (g1 : (a1.length * 8 ≤ 140737488351232 ∧ ∀ y0 ∈ a1, (Lit.int .i64 y0).wf = true)) :
    Calls Try.prog 5 #[.slice A0 a0.length c0, .slice A1 a1.length c1] W fun e w' => e = .returned (.bool true) ∧ Below W.heap.size W w' := by
  obtain ⟨k, hk⟩ := (newest_ev a0 a1 (by have := g0.1; omega) (by have := g1.1; omega) (fun v hv => okV_of (g0.2 v hv))).rounds
  exact stowagelaw13_ChainNewest.calls k A0 c0 a0 A1 c1 a1 true W C0 l0 C1 l1 hk rfl
end Go.Proofs.Ytmpnaaegahjfkaa.Walks