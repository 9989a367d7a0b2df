/- Chunks. -/
import Derived.Test.YthjfofgcikfepaaShF
import Derived.Test.YthjfofgcikfepaaPc
import Derived.Test.YthjfofgcikfepaaRc
namespace Go.Proofs.Ythjfofgcikfepaa.Q
open Go.Maps Go.WideShapes Go.WideMaps Go.RowKit Go.Proofs.YthjfofgcikfepaaW.PrintWords Go.Proofs.YthjfofgcikfepaaW.PrintLast Go.Proofs.YthjfofgcikfepaaW.PrintMore
set_option linter.unusedVariables false
set_option linter.unusedSimpArgs false
set_option maxHeartbeats 10000000
set_option maxRecDepth 100000
/-! the chunks of a text -/
theorem wrapN (n : Nat) (h : n ≤ 400000) : wrap64 (n : Int) = (n : Int) := IntWalk.wrap64_in _ (by omega)
theorem cnt_iff {n W i : Nat} (hW : 0 < W) : i < (n + W - 1) / W ↔ i * W < n := by
  rw [Nat.lt_div_iff_mul_lt hW]
  omega
def chTo (n W i : Nat) : Nat := min (i * W + W) n
def ch65 (x y : Int) (T : ByteArray) (W i : Nat) : S65 := ⟨x, y, ((i * W : Nat) : Int), decide (chTo T.size W i = T.size), T.extract (i * W) (chTo T.size W i)⟩
def ch64 (x y : Int) (T : ByteArray) (W i : Nat) : S64 := ⟨x, y, ((i * W : Nat) : Int), decide (chTo T.size W i = T.size), T.extract (i * W) (chTo T.size W i)⟩
def wd (a : Int) (n : Nat) : Nat := (min a (n : Int)).toNat
def chs {α : Type} (f : Nat → α) (n W : Nat) : List α := (List.range ((n + W - 1) / W)).map f
theorem chs_len {α : Type} (f : Nat → α) (n W : Nat) : (chs f n W).length = (n + W - 1) / W := by unfold chs; rw [List.length_map, List.length_range]
theorem mn_is (a b : Int) : mn a b = min a b := by
  unfold mn
  split <;> omega
theorem range_snoc {α : Type} (f : Nat → α) (i : Nat) : (List.range i).map f ++ [f i] = (List.range (i + 1)).map f := by
  rw [List.range_succ, List.map_append]; rfl
theorem chk_le {n W i : Nat} (hn : n ≤ 200000) (hW : 0 < W) (hWn : W ≤ n) (h : i * W < n) : i < 200000 ∧ i * W ≤ 200000 := by
  have : i ≤ i * W := Nat.le_mul_of_pos_right i hW
  omega
theorem ch_go (x y : Int) (T : ByteArray) (W : Nat) (hT : T.size ≤ 200000) (hW : 0 < W) (hWn : W ≤ T.size) (p q : Int) (ms : List Int) (d : ByteArray) : ∀ (m i : Nat), i + m = (T.size + W - 1) / W →
    Ev (fun k => shot_Chunks.l0 k (W : Int) T ((List.range i).map (ch65 p q T W)) (((T.size + W - 1) / W : Nat) : Int) (i : Int) p q ms d) (chs (ch65 p q T W) T.size W, 0)
  | 0, i, h => by
    refine Ev.step (f := fun _ => some ((List.range i).map (ch65 p q T W), 0)) (fun k => by rw [shot_Chunks.l0, if_neg (by omega)]) ?_
    have e : i = (T.size + W - 1) / W := by omega
    rw [e]
    exact Ev.now _
  | m + 1, i, h => by
    have hi : i * W < T.size := (cnt_iff hW).1 (by omega)
    have hb := chk_le hT hW hWn hi
    have e0 : wrap64 ((i : Int) * (W : Int)) = ((i * W : Nat) : Int) := by
      rw [← Int.natCast_mul]; exact IntWalk.wrap64_in _ (by omega)
    have e1 : wrap64 (((i * W : Nat) : Int) + (W : Int)) = ((i * W + W : Nat) : Int) := by
      rw [IntWalk.wrap64_in _ (by omega)]; omega
    have e2 : mn (((i * W + W : Nat) : Int)) (T.size : Int) = ((chTo T.size W i : Nat) : Int) := by
      rw [mn_is]; unfold chTo; omega
    have e3 : (((chTo T.size W i : Nat) : Int) == (T.size : Int)) = decide (chTo T.size W i = T.size) := by
      rw [Bool.beq_eq_decide_eq]; exact decide_eq_decide.2 (by omega)
    have hto : i * W ≤ chTo T.size W i ∧ chTo T.size W i ≤ T.size := by unfold chTo; omega
    have hG := ch_go x y T W hT hW hWn p q ms d m (i + 1) (by omega)
    rw [← range_snoc] at hG
    refine Ev.step (f := fun k => shot_Chunks.l0 k (W : Int) T ((List.range i).map (ch65 p q T W) ++ [ch65 p q T W i]) (((T.size + W - 1) / W : Nat) : Int) ((i + 1 : Nat) : Int) p q ms d) (fun k => ?_) hG
    rw [shot_Chunks.l0, if_pos (by omega), e0, e1, e2, if_pos (by omega), if_pos (by omega), if_pos (by omega), if_pos (by rw [List.length_map, List.length_range]; omega), e3, Int.toNat_natCast, Int.toNat_natCast, w1 i (by omega)]
    rfl
/-- the chunks and the error that they come with -/
def chunksS {α : Type} (f : Int → Int → ByteArray → Nat → Nat → α) (a b : Int) (ms : List Int) (d : ByteArray) (w : Int) : List α × Int :=
  if chkS a b ms d = 0 then (if w < 1 then ([], 1) else (chs (f a b (shotT a b ms d) (wd w (shotT a b ms d).size)) (shotT a b ms d).size (wd w (shotT a b ms d).size), 0)) else ([], chkS a b ms d)
theorem shotT_pos {a b : Int} {ms : List Int} {d : ByteArray} : 0 < (shotT a b ms d).size := by
  unfold shotT
  have : 0 < (numS ms.length).size := by
    rw [numS_len]
    unfold encN
    split <;> simp
  rw [size_app, size_app]
  omega
theorem chunks_ev (a b : Int) (ms : List Int) (d : ByteArray) (w : Int) : Ev (fun k => shot_Chunks.f k a b ms d w) (chunksS ch65 a b ms d w) := by
  unfold shot_Chunks.f
  refine Ev.bind (enc_ev a b ms d) ?_
  unfold encS chunksS
  by_cases h : chkS a b ms d = 0
  · rw [if_pos h, if_pos h]
    have hz := shotT_size (fineS h)
    have hp := @shotT_pos a b ms d
    generalize shotT a b ms d = T at hz hp ⊢
    refine Ev.congr (f := fun k => if w < 1 then some ([], 1) else if mn w (T.size : Int) = 0 then none else shot_Chunks.l0 k (mn w (T.size : Int)) T [] (wrap64 (Int.tdiv (wrap64 (wrap64 ((T.size : Int) + mn w (T.size : Int)) - 1)) (mn w (T.size : Int)))) 0 a b ms d) (fun k => if_pos rfl) ?_
    by_cases hw : w < 1
    · simp only [if_pos hw]; exact Ev.now _
    · have hW : 0 < wd w T.size := by unfold wd; omega
      have hWn : wd w T.size ≤ T.size := by unfold wd; omega
      have e : mn w (T.size : Int) = ((wd w T.size : Nat) : Int) := by rw [mn_is]; unfold wd; omega
      have e1 : wrap64 ((T.size : Int) + ((wd w T.size : Nat) : Int)) = ((T.size + wd w T.size : Nat) : Int) := by rw [IntWalk.wrap64_in _ (by omega)]; omega
      have e2 : wrap64 (((T.size + wd w T.size : Nat) : Int) - 1) = ((T.size + wd w T.size - 1 : Nat) : Int) := by rw [IntWalk.wrap64_in _ (by omega)]; omega
      have hq : (T.size + wd w T.size - 1) / wd w T.size ≤ 400000 := Nat.le_trans (Nat.div_le_self _ _) (by omega)
      have e3 : wrap64 (Int.tdiv ((T.size + wd w T.size - 1 : Nat) : Int) ((wd w T.size : Nat) : Int)) = (((T.size + wd w T.size - 1) / wd w T.size : Nat) : Int) := by
        rw [Int.tdiv_eq_ediv_of_nonneg (by omega), ← Int.natCast_ediv]
        exact wrapN _ hq
      rw [if_neg hw]
      refine Ev.congr (f := fun k => shot_Chunks.l0 k ((wd w T.size : Nat) : Int) T ((List.range 0).map (ch65 a b T (wd w T.size))) (((T.size + wd w T.size - 1) / wd w T.size : Nat) : Int) ((0 : Nat) : Int) a b ms d) (fun k => ?_) (ch_go 0 0 T (wd w T.size) (by omega) hW hWn a b ms d ((T.size + wd w T.size - 1) / wd w T.size) 0 (by omega))
      rw [if_neg hw, e, if_neg (by omega), e1, e2, e3]
      rfl
  · rw [if_neg h, if_neg h]
    exact Ev.congr (fun k => if_neg h) (Ev.now _)
/-! the document's chunks are the same -/
theorem rch_go (T : ByteArray) (a : Int) (ha : 1 ≤ a) (W : Nat) (eW : W = wd a T.size) (hT : T.size ≤ 200000) (hW : 0 < W) (hWn : W ≤ T.size) (p q : Int) (ms : List Int) (d : ByteArray) (hai : a ≤ 9223372036854775807) : ∀ (m i : Nat) (at_ : Nat), i + m = (T.size + W - 1) / W → at_ = min (i * W) T.size → i * W ≤ 400000 →
    Ev (fun k => stowageref07_Chunks.l0 k a T ((List.range i).map (ch64 p q T W)) (at_ : Int) p q ms d) (chs (ch64 p q T W) T.size W, 0)
  | 0, i, at_, h, hat, hb => by
    have hi : ¬ i * W < T.size := fun g => absurd ((cnt_iff hW).2 g) (by omega)
    refine Ev.step (f := fun _ => some ((List.range i).map (ch64 p q T W), 0)) (fun k => by rw [stowageref07_Chunks.l0, if_neg (by omega)]) ?_
    have e : i = (T.size + W - 1) / W := by omega
    rw [e]
    exact Ev.now _
  | m + 1, i, at_, h, hat, hb => by
    have hi : i * W < T.size := (cnt_iff hW).1 (by omega)
    have hb := chk_le hT hW hWn hi
    have eat : at_ = i * W := by omega
    subst eat
    have e0 : wrap64 ((T.size : Int) - ((i * W : Nat) : Int)) = ((T.size - i * W : Nat) : Int) := by rw [IntWalk.wrap64_in _ (by omega)]; omega
    have hlen : ((List.range i).map (ch64 p q T W)).length < 2932031007402 := by rw [List.length_map, List.length_range]; omega
    have hm : (i + 1) * W = i * W + W := Nat.succ_mul i W
    by_cases hc : a < ((T.size - i * W : Nat) : Int)
    · have eWa : (W : Int) = a := by rw [eW]; unfold wd; omega
      have e1 : wrap64 (((i * W : Nat) : Int) + a) = ((i * W + W : Nat) : Int) := by rw [IntWalk.wrap64_in _ (by omega)]; omega
      have eto : chTo T.size W i = i * W + W := by unfold chTo; omega
      have e3 : (((i * W + W : Nat) : Int) == (T.size : Int)) = decide (chTo T.size W i = T.size) := by
        rw [Bool.beq_eq_decide_eq, eto]; exact decide_eq_decide.2 (by omega)
      have hG := rch_go T a ha W eW hT hW hWn p q ms d hai m (i + 1) (i * W + W) (by omega) (by omega) (by omega)
      rw [← range_snoc] at hG
      refine Ev.step (f := fun k => stowageref07_Chunks.l0 k a T ((List.range i).map (ch64 p q T W) ++ [ch64 p q T W i]) ((i * W + W : Nat) : Int) p q ms d) (fun k => ?_) hG
      rw [stowageref07_Chunks.l0, if_pos (by omega), e0, if_pos hc, e1, if_pos (by omega), if_pos (by omega), if_pos (by omega), if_pos hlen, e3, Int.toNat_natCast, Int.toNat_natCast]
      unfold ch64
      rw [eto]
    · have hWv : (W : Int) = min a (T.size : Int) := by rw [eW]; unfold wd; omega
      have eto : chTo T.size W i = T.size := by unfold chTo; omega
      have hG := rch_go T a ha W eW hT hW hWn p q ms d hai m (i + 1) T.size (by omega) (by unfold chTo at eto; omega) (by omega)
      rw [← range_snoc] at hG
      refine Ev.step (f := fun k => stowageref07_Chunks.l0 k a T ((List.range i).map (ch64 p q T W) ++ [ch64 p q T W i]) (T.size : Int) p q ms d) (fun k => ?_) hG
      have e3 : ((T.size : Int) == (T.size : Int)) = decide (chTo T.size W i = T.size) := by rw [eto]; simp
      rw [stowageref07_Chunks.l0, if_pos (by omega), e0, if_neg hc, if_pos (by omega), if_pos (by omega), if_pos (by omega), if_pos hlen, e3, Int.toNat_natCast, Int.toNat_natCast]
      unfold ch64
      rw [eto]
theorem rchunks_ev (a b : Int) (ms : List Int) (d : ByteArray) (w : Int) (hw1 : w ≤ 9223372036854775807) (renc_ev : ∀ (a b : Int) (ms : List Int) (d : ByteArray), Ev (fun k => stowageref07_Encode.f k a b ms d) (encS a b ms d)) : Ev (fun k => stowageref07_Chunks.f k a b ms d w) (chunksS ch64 a b ms d w) := by
  unfold stowageref07_Chunks.f
  refine Ev.bind (renc_ev a b ms d) ?_
  unfold encS chunksS
  by_cases h : chkS a b ms d = 0
  · rw [if_pos h, if_pos h]
    have hz := shotT_size (fineS h)
    have hp := @shotT_pos a b ms d
    generalize shotT a b ms d = T at hz hp ⊢
    refine Ev.congr (f := fun k => if w < 1 then some ([], 1) else stowageref07_Chunks.l0 k w T [] 0 a b ms d) (fun k => if_pos rfl) ?_
    by_cases hw : w < 1
    · simp only [if_pos hw]; exact Ev.now _
    · have hW : 0 < wd w T.size := by unfold wd; omega
      have hWn : wd w T.size ≤ T.size := by unfold wd; omega
      rw [if_neg hw]
      refine Ev.congr (f := fun k => stowageref07_Chunks.l0 k w T ((List.range 0).map (ch64 a b T (wd w T.size))) ((0 : Nat) : Int) a b ms d) (fun k => if_neg hw) ?_
      exact rch_go T w (by omega) (wd w T.size) rfl (by omega) hW hWn a b ms d hw1 ((T.size + wd w T.size - 1) / wd w T.size) 0 0 (by omega) (by omega) (by omega)
  · rw [if_neg h, if_neg h]
    exact Ev.congr (fun k => if_neg h) (Ev.now _)
theorem chunksS_len (a b : Int) (ms : List Int) (d : ByteArray) (w : Int) : (chunksS ch65 a b ms d w).1.length ≤ 400000 := by
  unfold chunksS
  split
  · rename_i h
    have hz := shotT_size (fineS h)
    split
    · exact Nat.zero_le _
    · show (chs _ _ _).length ≤ _
      rw [chs_len]
      have : wd w (shotT a b ms d).size ≤ (shotT a b ms d).size := by unfold wd; omega
      exact Nat.le_trans (Nat.div_le_self _ _) (by omega)
  · exact Nat.zero_le _
end Go.Proofs.Ythjfofgcikfepaa.Q
