
/- ChainFinds answers true at every input. -/
import Derived.Test.YtmpnaaegahjfkaaPc
import Derived.Test.YtmpnaaegahjfkaaQx8
import Derived.Test.YtmpnaaegahjfkaaQx16
import Derived.Test.YtmpnaaegahjfkaaQx17
import Derived.Test.YtmpnaaegahjfkaaQx18
namespace Go.Proofs.Ytmpnaaegahjfkaa.Q
open Go.RowKit Go.Proofs.YtmpnaaegahjfkaaW.PrintWords Go.Proofs.YtmpnaaegahjfkaaW.PrintLast Go.Proofs.YtmpnaaegahjfkaaW.PrintMore
set_option linter.unusedVariables false
set_option linter.unusedSimpArgs false
theorem okV_of {v : S24} (hv : ((Lit.int .i64 v.f0).wf = true ∧ (True ∧ ((Lit.int .i64 v.f2).wf = true ∧ (v.f3.size ≤ 140737488351232 ∧ (v.f4.length * 24 ≤ 140737488351232 ∧ ∀ y1 ∈ v.f4, (y1.f0.size ≤ 140737488351232 ∧ (Lit.int .i64 y1.f1).wf = true))))))) : OkV v := ⟨Nat.le_trans hv.2.2.2.1 (by omega), by have := hv.2.2.2.2.1; omega, fun p hp => Nat.le_trans (hv.2.2.2.2.2 p hp).1 (by omega)⟩
theorem atF_cons (v : S24) (l : List S24) (id : Int) : atF (v :: l) id = if v.f0 = id then 0 else (if atF l id < 0 then -1 else atF l id + 1) := by
  unfold atF
  rw [List.findIdx?_cons]
  by_cases h : v.f0 = id
  · rw [if_pos h, if_pos (by simp [h])]; rfl
  · rw [if_neg h, if_neg (by simp [h])]
    cases hq : List.findIdx? (fun v => v.f0 == id) l with
    | none => rfl
    | some j => simp only [Option.map_some]; rw [if_neg (by omega)]; omega
theorem atF_ge (l : List S24) (id : Int) : -1 ≤ atF l id ∧ atF l id < l.length := by
  unfold atF
  cases hq : List.findIdx? (fun v => v.f0 == id) l with
  | none => simp only []; omega
  | some j => have := (List.findIdx?_eq_some_iff_getElem.1 hq).1; simp only []; omega
/-! Latest, Find, Ids -/
def nil24 (e : Int) : Int × Bool × Int × ByteArray × List S72 × Int := (0, false, 0, (⟨#[]⟩ : ByteArray), ([] : List S72), e)
def give (v : S24) : Int × Bool × Int × ByteArray × List S72 × Int := (v.f0, v.f1, v.f2, v.f3, v.f4, 0)
def mR (r : Int × Bool × Int × ByteArray × List S72 × Int) : Int × Bool × Int × ByteArray × List S74 × Int := (r.1, r.2.1, r.2.2.1, r.2.2.2.1, r.2.2.2.2.1.map m74, r.2.2.2.2.2)
def latestS (l : List S24) : Int × Bool × Int × ByteArray × List S72 × Int := if rightS l = true then (if l.length = 0 then nil24 4 else if (l.getD 0 z24).f1 = true then nil24 130 else give (l.getD 0 z24)) else nil24 1
theorem latest_ev (l : List S24) (hl : l.length ≤ 2199023255551) (hok : ∀ v ∈ l, OkV v) : Ev (fun k => chain_Latest.f k l) (latestS l) := by
  unfold chain_Latest.f latestS
  refine Ev.bind (right_ev l (by omega) hok) ?_
  by_cases hR : rightS l = true
  · simp only [hR, if_true]
    by_cases h0 : l.length = 0
    · simp only [h0, if_true]
      exact Ev.congr (fun k => if_pos rfl) (Ev.now _)
    · rw [if_neg h0]
      by_cases h1 : (l.getD 0 z24).f1 = true
      · rw [if_pos h1]
        refine Ev.congr (f := fun _ => some (nil24 130)) (fun k => ?_) (Ev.now _)
        rw [if_neg (by omega), if_pos (by omega), if_pos (show (rd_T24 l 0).f1 = true from h1)]
        rfl
      · rw [if_neg h1]
        refine Ev.congr (f := fun _ => some (give (l.getD 0 z24))) (fun k => ?_) (Ev.now _)
        rw [if_neg (by omega), if_pos (by omega), if_neg (show ¬ (rd_T24 l 0).f1 = true from h1), show rd_T24 l 0 = l.getD 0 z24 from rfl, own_some _ (chk_len (right_mem hR (mem_getD l 0 (by omega))))]
        rfl
  · simp only [hR]; exact Ev.now _
theorem rlatest_ev (l : List S24) (hl : l.length ≤ 2199023255551) (hok : ∀ v ∈ l, OkV v) : Ev (fun k => stowageref13_Latest.f k (l.map m36)) (mR (latestS l)) := by
  unfold stowageref13_Latest.f latestS
  refine Ev.bind (may36_ev l (by omega) hok) ?_
  by_cases hR : rightS l = true
  · simp only [hR, if_true]
    by_cases h0 : l.length = 0
    · rw [if_pos h0]
      exact Ev.congr (fun k => if_pos (by rw [List.length_map]; omega)) (Ev.now _)
    · rw [if_neg h0]
      have e0 : rd_T36 (l.map m36) 0 = m36 (l.getD 0 z24) := getD_map36 l 0 (by omega)
      by_cases h1 : (l.getD 0 z24).f1 = true
      · rw [if_pos h1]
        refine Ev.congr (f := fun _ => some (mR (nil24 130))) (fun k => ?_) (Ev.now _)
        rw [if_neg (by rw [List.length_map]; omega), if_pos (by rw [List.length_map]; omega), e0, if_pos (show (m36 (l.getD 0 z24)).f1 = true from h1)]
        rfl
      · rw [if_neg h1]
        refine Ev.congr (f := fun _ => some (mR (give (l.getD 0 z24)))) (fun k => ?_) (Ev.now _)
        rw [if_neg (by rw [List.length_map]; omega), if_pos (by rw [List.length_map]; omega), e0, if_neg (show ¬ (m36 (l.getD 0 z24)).f1 = true from h1)]
        rfl
  · simp only [hR]; exact Ev.now _
def findS (l : List S24) (id : Int) : Int × Bool × Int × ByteArray × List S72 × Int := if rightS l = true then (if 0 ≤ atF l id then give (l.getD (atF l id).toNat z24) else nil24 4) else nil24 1
theorem find_ev (l : List S24) (id : Int) (hl : l.length ≤ 2199023255551) (hok : ∀ v ∈ l, OkV v) : Ev (fun k => chain_Find.f k l id) (findS l id) := by
  unfold chain_Find.f findS
  refine Ev.bind (right_ev l (by omega) hok) ?_
  have hb := atF_ge l id
  by_cases hR : rightS l = true
  · simp only [hR, if_true]
    by_cases h0 : 0 ≤ atF l id
    · rw [if_pos h0]
      refine Ev.congr (f := fun _ => some (give (l.getD (atF l id).toNat z24))) (fun k => ?_) (Ev.now _)
      unfold chain_at.f
      rw [Option.bind_some, if_pos h0, if_pos h0, if_pos hb.2, show rd_T24 l (atF l id) = l.getD (atF l id).toNat z24 from rfl, own_some _ (chk_len (right_mem hR (mem_getD l _ (by omega))))]
      rfl
    · rw [if_neg h0]
      refine Ev.congr (f := fun _ => some (nil24 4)) (fun k => ?_) (Ev.now _)
      unfold chain_at.f
      rw [Option.bind_some, if_neg h0]
      rfl
  · simp only [hR]; exact Ev.now _
theorem atF_step {l : List S24} {id : Int} {i : Nat} (hi : i < l.length) : atF (l.drop i) id = if (l.getD i z24).f0 = id then 0 else (if atF (l.drop (i + 1)) id < 0 then -1 else atF (l.drop (i + 1)) id + 1) := by
  rw [List.drop_eq_getElem_cons hi, atF_cons, List.getD_eq_getElem?_getD, List.getElem?_eq_getElem hi]; rfl
theorem rfind_go (l : List S24) (id : Int) (hl : l.length ≤ 32) : ∀ (d i : Nat), i + d = l.length → Ev (fun k => stowageref13_Find.l0 k (l.map m36) id (i : Int)) (mR (if 0 ≤ atF (l.drop i) id then give (l.getD (i + (atF (l.drop i) id).toNat) z24) else nil24 4))
  | 0, i, h => by
    have eL : ((l.map m36).length : Int) = (l.length : Int) := by rw [List.length_map]
    rw [List.drop_of_length_le (by omega), if_neg (show ¬ (0 : Int) ≤ atF [] id from (by show ¬ (0 : Int) ≤ -1; decide))]
    exact Ev.step (f := fun _ => some (mR (nil24 4))) (fun k => by rw [stowageref13_Find.l0, eL, if_neg (by omega)]; rfl) (Ev.now _)
  | d + 1, i, h => by
    have hi : i < l.length := by omega
    have eL : ((l.map m36).length : Int) = (l.length : Int) := by rw [List.length_map]
    have eg := getD_map36 l i hi
    rw [atF_step hi]
    by_cases hp : (l.getD i z24).f0 = id
    · rw [if_pos hp, if_pos (by omega)]
      refine Ev.step (f := fun _ => some (mR (give (l.getD i z24)))) (fun k => ?_) (Ev.now _)
      rw [stowageref13_Find.l0, eL, if_pos (by omega), if_pos (by omega), rd36, eg, if_pos (show (m36 (l.getD i z24)).f0 = id from hp)]
      rfl
    · rw [if_neg hp]
      have hG := rfind_go l id hl d (i + 1) (by omega)
      have e : (if 0 ≤ (if atF (l.drop (i + 1)) id < 0 then -1 else atF (l.drop (i + 1)) id + 1) then give (l.getD (i + (if atF (l.drop (i + 1)) id < 0 then -1 else atF (l.drop (i + 1)) id + 1).toNat) z24) else nil24 4) = (if 0 ≤ atF (l.drop (i + 1)) id then give (l.getD (i + 1 + (atF (l.drop (i + 1)) id).toNat) z24) else nil24 4) := by
        by_cases ha : atF (l.drop (i + 1)) id < 0
        · rw [if_pos ha, if_neg (by omega), if_neg (by omega)]
        · rw [if_neg ha, if_pos (by omega), if_pos (by omega)]
          congr 2
          omega
      rw [e]
      refine Ev.step (fun k => ?_) hG
      rw [stowageref13_Find.l0, eL, if_pos (by omega), if_pos (by omega), rd36, eg, if_neg (show ¬ (m36 (l.getD i z24)).f0 = id from hp), w1 i (by omega)]
theorem rfind_ev (l : List S24) (id : Int) (hl : l.length ≤ 2199023255551) (hok : ∀ v ∈ l, OkV v) : Ev (fun k => stowageref13_Find.f k (l.map m36) id) (mR (findS l id)) := by
  unfold stowageref13_Find.f findS
  refine Ev.bind (may36_ev l (by omega) hok) ?_
  by_cases hR : rightS l = true
  · simp only [hR, if_true]
    have := rfind_go l id (right_at hR).1 l.length 0 (by omega)
    simp only [List.drop_zero, Nat.zero_add] at this
    exact this
  · simp only [hR]; exact Ev.now _
def idsOf (l : List S24) : List ByteArray := l.flatMap (fun v => v.f4.map (·.f0))
def idsS (l : List S24) : List ByteArray := if rightS l = true then idsOf l else []
theorem idsOf_len : ∀ (l : List S24) (n : Nat), (∀ v ∈ l, v.f4.length ≤ n) → (idsOf l).length ≤ n * l.length
  | [], n, _ => by simp [idsOf]
  | v :: l, n, h => by
    have h1 := idsOf_len l n (fun q hq => h q (List.mem_cons_of_mem _ hq))
    have h2 := h v List.mem_cons_self
    unfold idsOf at h1 ⊢
    rw [List.flatMap_cons, List.length_append, List.length_map, List.length_cons, Nat.mul_add, Nat.mul_one]
    omega
theorem ids_inner (x11 : List S24) (x13 : Int) (p : List S72) (hp : p.length ≤ 512) : ∀ (d i : Nat) (out : List ByteArray) (r : List ByteArray), i + d = p.length → out.length + d ≤ 100000 → Ev (fun k => chain_Ids.l0 k (out ++ (p.drop i).map (·.f0)) x11 (x11.length : Int) (wrap64 (x13 + 1))) r →
    Ev (fun k => chain_Ids.l1 k out x11 (x11.length : Int) x13 p (p.length : Int) (i : Int)) r
  | 0, i, out, r, h, ho, hr => by
    rw [List.drop_of_length_le (by omega), List.map_nil, List.append_nil] at hr
    exact Ev.step (fun k => by rw [chain_Ids.l1, if_neg (by omega)]) hr
  | d + 1, i, out, r, h, ho, hr => by
    have hi : i < p.length := by omega
    rw [List.drop_eq_getElem_cons hi, List.map_cons] at hr
    refine Ev.step (fun k => ?_) (ids_inner x11 x13 p hp d (i + 1) (out ++ [(p[i]).f0]) r (by omega) (by rw [List.length_append, List.length_singleton]; omega) (by rw [List.append_assoc]; exact hr))
    rw [chain_Ids.l1, if_pos (by omega), if_pos (by omega), if_pos (by omega), if_pos (by omega), rd72 p i hi, w1 i (by omega)]
theorem ids_go (l : List S24) (hl : l.length ≤ 32) (hc : ∀ v ∈ l, v.f4.length ≤ 512) : ∀ (d i : Nat) (out : List ByteArray), i + d = l.length → out.length ≤ 512 * i → Ev (fun k => chain_Ids.l0 k out l (l.length : Int) (i : Int)) (out ++ idsOf (l.drop i))
  | 0, i, out, h, ho => by
    rw [List.drop_of_length_le (by omega)]
    refine Ev.step (f := fun _ => some out) (fun k => by rw [chain_Ids.l0, if_neg (by omega)]) ⟨0, fun _ _ => by simp [idsOf]⟩
  | d + 1, i, out, h, ho => by
    have hi : i < l.length := by omega
    have hv := hc _ (mem_getD l i hi)
    have hG := ids_go l hl hc d (i + 1) (out ++ ((l.getD i z24).f4).map (·.f0)) (by omega) (by rw [List.length_append, List.length_map]; omega)
    have e : out ++ idsOf (l.drop i) = out ++ ((l.getD i z24).f4).map (·.f0) ++ idsOf (l.drop (i + 1)) := by
      rw [List.drop_eq_getElem_cons hi, List.append_assoc, List.getD_eq_getElem?_getD, List.getElem?_eq_getElem hi]; rfl
    rw [e]
    refine Ev.step (f := fun k => chain_Ids.l1 k out l (l.length : Int) (i : Int) (l.getD i z24).f4 ((l.getD i z24).f4.length : Int) ((0 : Nat) : Int)) (fun k => ?_) (ids_inner l (i : Int) (l.getD i z24).f4 hv (l.getD i z24).f4.length 0 out _ (by omega) (by omega) ?_)
    · rw [chain_Ids.l0, if_pos (by omega), if_pos (by omega), if_pos (by omega), rd24]; rfl
    · rw [w1 i (by omega), List.drop_zero]; exact hG
theorem ids_ev (l : List S24) (hl : l.length ≤ 2199023255551) (hok : ∀ v ∈ l, OkV v) : Ev (fun k => chain_Ids.f k l) (idsS l) := by
  unfold chain_Ids.f idsS
  refine Ev.bind (right_ev l (by omega) hok) ?_
  by_cases hR : rightS l = true
  · simp only [hR, if_true]
    have := ids_go l (right_at hR).1 (fun q hq => chk_len (right_mem hR hq)) l.length 0 [] (by omega) (by simp)
    exact this
  · simp only [hR]; exact Ev.now _
theorem rids_inner (l : List S24) (i : Nat) (hi : i < l.length) (hl : l.length ≤ 32) (hp : (l.getD i z24).f4.length ≤ 512) : ∀ (d j : Nat) (out : List ByteArray) (r : List ByteArray), j + d = (l.getD i z24).f4.length → out.length + d ≤ 100000 →
    Ev (fun k => stowageref13_Ids.l0 k (l.map m36) (out ++ ((l.getD i z24).f4.drop j).map (·.f0)) ((i + 1 : Nat) : Int)) r → Ev (fun k => stowageref13_Ids.l1 k (l.map m36) out (i : Int) (j : Int)) r
  | 0, j, out, r, h, ho, hr => by
    have eL : ((l.map m36).length : Int) = (l.length : Int) := by rw [List.length_map]
    have eg := getD_map36 l i hi
    have eP : ((m36 (l.getD i z24)).f4.length : Int) = ((l.getD i z24).f4.length : Int) := by unfold m36; rw [List.length_map]
    rw [List.drop_of_length_le (by omega), List.map_nil, List.append_nil] at hr
    exact Ev.step (fun k => by rw [stowageref13_Ids.l1, eL, if_pos (by omega), if_pos (by omega), rd36, eg, eP, if_neg (by omega), w1 i (by omega)]) hr
  | d + 1, j, out, r, h, ho, hr => by
    have eL : ((l.map m36).length : Int) = (l.length : Int) := by rw [List.length_map]
    have eg := getD_map36 l i hi
    have eP : ((m36 (l.getD i z24)).f4.length : Int) = ((l.getD i z24).f4.length : Int) := by unfold m36; rw [List.length_map]
    have hj : j < (l.getD i z24).f4.length := by omega
    rw [List.drop_eq_getElem_cons hj, List.map_cons] at hr
    refine Ev.step (fun k => ?_) (rids_inner l i hi hl hp d (j + 1) (out ++ [((l.getD i z24).f4[j]).f0]) r (by omega) (by rw [List.length_append, List.length_singleton]; omega) (by rw [List.append_assoc]; exact hr))
    have e2 : rd_T74 (m36 (l.getD i z24)).f4 (j : Int) = m74 ((l.getD i z24).f4[j]) := by
      rw [rd74 _ j (by unfold m36; rw [List.length_map]; exact hj)]
      unfold m36
      simp only [List.getElem_map]
    rw [stowageref13_Ids.l1, eL, if_pos (by omega), if_pos (by omega), rd36, eg, eP, if_pos (by omega), if_pos (by omega), if_pos (by omega), e2, w1 j (by omega)]
    rfl
theorem rids_go (l : List S24) (hR : rightS l = true) (hlen : l.length ≤ 2199023255551) (hok : ∀ v ∈ l, OkV v) : ∀ (d i : Nat) (out : List ByteArray), i + d = l.length → out.length ≤ 512 * i → Ev (fun k => stowageref13_Ids.l0 k (l.map m36) out (i : Int)) (out ++ idsOf (l.drop i))
  | 0, i, out, h, ho => by
    have eL : ((l.map m36).length : Int) = (l.length : Int) := by rw [List.length_map]
    rw [List.drop_of_length_le (by omega)]
    refine Ev.step (f := fun k => stowageref13_Ids.j1 k (l.map m36) out (i : Int) false) (fun k => by rw [stowageref13_Ids.l0, eL, if_neg (by omega)]) (Ev.step (f := fun _ => some out) (fun k => by rw [stowageref13_Ids.j1, if_neg (by simp)]) ⟨0, fun _ _ => by simp [idsOf]⟩)
  | d + 1, i, out, h, ho => by
    have hi : i < l.length := by omega
    have hl := (right_at hR).1
    have eL : ((l.map m36).length : Int) = (l.length : Int) := by rw [List.length_map]
    have hv := chk_len (right_mem hR (mem_getD l i hi))
    have hG := rids_go l hR hlen hok d (i + 1) (out ++ ((l.getD i z24).f4).map (·.f0)) (by omega) (by rw [List.length_append, List.length_map]; omega)
    have e : out ++ idsOf (l.drop i) = out ++ ((l.getD i z24).f4).map (·.f0) ++ idsOf (l.drop (i + 1)) := by
      rw [List.drop_eq_getElem_cons hi, List.append_assoc, List.getD_eq_getElem?_getD, List.getElem?_eq_getElem hi]; rfl
    rw [e]
    refine Ev.step (f := fun k => (stowageref13_May.f k (l.map m36)).bind fun t => stowageref13_Ids.j1 k (l.map m36) out (i : Int) t) (fun k => by rw [stowageref13_Ids.l0, eL, if_pos (by omega)]) (Ev.bind (may36_ev l (by omega) hok) ?_)
    rw [hR]
    refine Ev.step (f := fun k => stowageref13_Ids.l1 k (l.map m36) out (i : Int) ((0 : Nat) : Int)) (fun k => by rw [stowageref13_Ids.j1, if_pos rfl]; rfl) (rids_inner l i hi hl hv (l.getD i z24).f4.length 0 out _ (by omega) (by omega) ?_)
    rw [List.drop_zero]; exact hG
theorem rids_ev (l : List S24) (hl : l.length ≤ 2199023255551) (hok : ∀ v ∈ l, OkV v) : Ev (fun k => stowageref13_Ids.f k (l.map m36)) (idsS l) := by
  unfold stowageref13_Ids.f idsS
  by_cases hR : rightS l = true
  · rw [if_pos hR]
    exact rids_go l hR hl hok l.length 0 [] (by omega) (by simp)
  · rw [if_neg hR]
    have eL : ((l.map m36).length : Int) = (l.length : Int) := by rw [List.length_map]
    by_cases h0 : l.length = 0
    · refine Ev.step (f := fun k => stowageref13_Ids.j1 k (l.map m36) [] (0 : Int) false) (fun k => by rw [stowageref13_Ids.l0, eL, if_neg (by omega)]) (Ev.step (f := fun _ => some []) (fun k => by rw [stowageref13_Ids.j1, if_neg (by simp)]) (Ev.now _))
    · refine Ev.step (f := fun k => (stowageref13_May.f k (l.map m36)).bind fun t => stowageref13_Ids.j1 k (l.map m36) [] (0 : Int) t) (fun k => by rw [stowageref13_Ids.l0, eL, if_pos (by omega)]) (Ev.bind (may36_ev l (by omega) hok) ?_)
      exact Ev.step (f := fun _ => some []) (fun k => by rw [stowageref13_Ids.j1, if_neg hR]) (Ev.now _)
theorem sameL_go (l : List ByteArray) (hl : l.length ≤ 1000000) : ∀ (d i : Nat), i + d = l.length → Ev (fun k => stowagelaw01_Same.l0 k l l (i : Int)) true
  | 0, i, h => Ev.step (f := fun _ => some true) (fun k => by rw [stowagelaw01_Same.l0, if_neg (by omega)]) (Ev.now _)
  | d + 1, i, h => by
    refine Ev.step (fun k => ?_) (sameL_go l hl d (i + 1) (by omega))
    rw [stowagelaw01_Same.l0, if_pos (by omega), if_pos (by omega), if_pos (by omega), if_pos rfl, w1 i (by omega)]
theorem sameL_ev (l : List ByteArray) (hl : l.length ≤ 1000000) : Ev (fun k => stowagelaw01_Same.f k l l) true := Ev.congr (f := fun k => stowagelaw01_Same.l0 k l l ((0 : Nat) : Int)) (fun k => if_pos rfl) (sameL_go l hl l.length 0 (by omega))
theorem idsS_len (l : List S24) : (idsS l).length ≤ 1000000 := by
  unfold idsS
  by_cases hR : rightS l = true
  · rw [if_pos hR]
    have h1 := idsOf_len l 512 (fun q hq => chk_len (right_mem hR hq))
    have h2 := (right_at hR).1
    omega
  · rw [if_neg hR]; simp
theorem okR_latest {l : List S24} (hok : ∀ v ∈ l, OkV v) : (latestS l).2.2.2.2.1.length ≤ 5864062014800 := by
  unfold latestS
  split
  · split
    · simp [nil24]
    · rename_i h0
      split
      · simp [nil24]
      · exact (hok _ (mem_getD l 0 (by omega))).len
  · simp [nil24]
theorem okR_find {l : List S24} {id : Int} (hok : ∀ v ∈ l, OkV v) : (findS l id).2.2.2.2.1.length ≤ 5864062014800 := by
  unfold findS
  split
  · split
    · have := atF_ge l id; exact (hok _ (mem_getD l _ (by omega))).len
    · simp [nil24]
  · simp [nil24]
theorem finds_ev (l : List S24) (id : Int) (hl : l.length ≤ 2199023255550) (hok : ∀ v ∈ l, OkV v) : Ev (fun k => stowagelaw13_ChainFinds.f k l id) true := by
  unfold stowagelaw13_ChainFinds.f
  refine Ev.bind (latest_ev l (by omega) hok) (Ev.bind (refs_ev l (by omega) hok) (Ev.bind (rlatest_ev l (by omega) hok) (Ev.bind (find_ev l id (by omega) hok) (Ev.bind (refs_ev l (by omega) hok) (Ev.bind (rfind_ev l id (by omega) hok) (Ev.bind awake_ev ?_))))))
  have h1 := okR_latest hok
  have h2 := okR_find (id := id) hok
  have i1 := ids_ev l (by omega) hok
  have i2 := rids_ev l (by omega) hok
  have i3 := sameL_ev (idsS l) (idsS_len l)
  have rf := refs_ev l (by omega) hok
  generalize latestS l = a at h1
  generalize findS l id = b at h2
  refine Ev.congr (fun k => if_pos rfl) (Ev.bind (ref_ev a.1 a.2.1 a.2.2.1 a.2.2.2.1 a.2.2.2.2.1 h1) (Ev.bind (same_ev _ _ _ _ _ (map74_len _ h1)) ?_))
  refine Ev.congr (fun k => by rw [if_pos rfl]; exact if_pos rfl) (Ev.bind (ref_ev b.1 b.2.1 b.2.2.1 b.2.2.2.1 b.2.2.2.2.1 h2) (Ev.bind (same_ev _ _ _ _ _ (map74_len _ h2)) ?_))
  refine Ev.congr (fun k => by rw [if_pos rfl]; exact if_pos rfl) (Ev.bind i1 (Ev.bind rf (Ev.bind i2 (Ev.bind i3 (Ev.now _)))))
end Go.Proofs.Ytmpnaaegahjfkaa.Q
namespace Go.Proofs.Ytmpnaaegahjfkaa.Walks
open Go.RowKit Go.Proofs.Ytmpnaaegahjfkaa.Q Go.Proofs.YtmpnaaegahjfkaaW.PrintWords Go.Proofs.YtmpnaaegahjfkaaW.PrintLast Go.Proofs.YtmpnaaegahjfkaaW.PrintMore
set_option linter.unusedVariables false
theorem ChainFinds (W : World) (A0 : Option Addr) (c0 : Nat) (a0 : List S24) (l0 : a0.length ≤ c0) (C0 : Kd.C k24 W A0 a0.length a0) (g0 : (a0.length * 64 ≤ 140737488351232 ∧ ∀ y0 ∈ a0, ((Lit.int .i64 y0.f0).wf = true ∧ (True ∧ ((Lit.int .i64 y0.f2).wf = true ∧ (y0.f3.size ≤ 140737488351232 ∧ (y0.f4.length * 24 ≤ 140737488351232 ∧ ∀ y1 ∈ y0.f4, (y1.f0.size ≤ 140737488351232 ∧ (Lit.int .i64 y1.f1).wf = true)))))))) (a1 : Int) (g1 : (Lit.int .i64 a1).wf = true) :
    Calls Try.prog 6 #[.slice A0 a0.length c0, .int .i64 a1] W fun e w' => e = .returned (.bool true) ∧ Below W.heap.size W w' := by
  obtain ⟨k, hk⟩ := (finds_ev a0 a1 (by have := g0.1; omega) (fun v hv => okV_of (g0.2 v hv))).rounds
  exact stowagelaw13_ChainFinds.calls k A0 c0 a0 a1 true W C0 l0 hk rfl
end Go.Proofs.Ytmpnaaegahjfkaa.Walks