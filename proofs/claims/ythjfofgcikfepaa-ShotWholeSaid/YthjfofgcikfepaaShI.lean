/- What chunks give. -/
import Derived.Outline
import Derived.StillTailTactics
import Derived.Deep.AppendLies
import Derived.Test.YthjfofgcikfepaaShG
import Derived.Test.YthjfofgcikfepaaPc
namespace Go.Proofs.Ythjfofgcikfepaa.Q
open Go.Maps Go.WideShapes Go.WideMaps Go.RowKit Go.Proofs.YthjfofgcikfepaaW.PrintWords Go.Proofs.YthjfofgcikfepaaW.PrintLast Go.Proofs.YthjfofgcikfepaaW.PrintMore
set_option linter.unusedVariables false
set_option linter.unusedSimpArgs false
set_option maxHeartbeats 10000000
set_option maxRecDepth 100000
/-! the chunks of a text -/
theorem wrapN (n : Nat) (h : n ≤ 400000) : wrap64 (n : Int) = (n : Int) := IntWalk.wrap64_in _ (by omega)
theorem cnt_iff {n W i : Nat} (hW : 0 < W) : i < (n + W - 1) / W ↔ i * W < n := by
  rw [Nat.lt_div_iff_mul_lt hW]
  omega
def chTo (n W i : Nat) : Nat := min (i * W + W) n
def ch65 (x y : Int) (T : ByteArray) (W i : Nat) : S65 := ⟨x, y, ((i * W : Nat) : Int), decide (chTo T.size W i = T.size), T.extract (i * W) (chTo T.size W i)⟩
def wd (a : Int) (n : Nat) : Nat := (min a (n : Int)).toNat
def chs {α : Type} (f : Nat → α) (n W : Nat) : List α := (List.range ((n + W - 1) / W)).map f
theorem chs_len {α : Type} (f : Nat → α) (n W : Nat) : (chs f n W).length = (n + W - 1) / W := by unfold chs; rw [List.length_map, List.length_range]
theorem mn_is (a b : Int) : mn a b = min a b := by
  unfold mn
  split <;> omega
theorem range_snoc {α : Type} (f : Nat → α) (i : Nat) : (List.range i).map f ++ [f i] = (List.range (i + 1)).map f := by
  rw [List.range_succ, List.map_append]; rfl
theorem chk_le {n W i : Nat} (hn : n ≤ 200000) (hW : 0 < W) (hWn : W ≤ n) (h : i * W < n) : i < 200000 ∧ i * W ≤ 200000 := by
  have : i ≤ i * W := Nat.le_mul_of_pos_right i hW
  omega
theorem ch_go (x y : Int) (T : ByteArray) (W : Nat) (hT : T.size ≤ 200000) (hW : 0 < W) (hWn : W ≤ T.size) (p q : Int) (ms : List Int) (d : ByteArray) : ∀ (m i : Nat), i + m = (T.size + W - 1) / W →
    Ev (fun k => shot_Chunks.l0 k (W : Int) T ((List.range i).map (ch65 p q T W)) (((T.size + W - 1) / W : Nat) : Int) (i : Int) p q ms d) (chs (ch65 p q T W) T.size W, 0)
  | 0, i, h => by
    refine Ev.step (f := fun _ => some ((List.range i).map (ch65 p q T W), 0)) (fun k => by rw [shot_Chunks.l0, if_neg (by omega)]) ?_
    have e : i = (T.size + W - 1) / W := by omega
    rw [e]
    exact Ev.now _
  | m + 1, i, h => by
    have hi : i * W < T.size := (cnt_iff hW).1 (by omega)
    have hb := chk_le hT hW hWn hi
    have e0 : wrap64 ((i : Int) * (W : Int)) = ((i * W : Nat) : Int) := by
      rw [← Int.natCast_mul]; exact IntWalk.wrap64_in _ (by omega)
    have e1 : wrap64 (((i * W : Nat) : Int) + (W : Int)) = ((i * W + W : Nat) : Int) := by
      rw [IntWalk.wrap64_in _ (by omega)]; omega
    have e2 : mn (((i * W + W : Nat) : Int)) (T.size : Int) = ((chTo T.size W i : Nat) : Int) := by
      rw [mn_is]; unfold chTo; omega
    have e3 : (((chTo T.size W i : Nat) : Int) == (T.size : Int)) = decide (chTo T.size W i = T.size) := by
      rw [Bool.beq_eq_decide_eq]; exact decide_eq_decide.2 (by omega)
    have hto : i * W ≤ chTo T.size W i ∧ chTo T.size W i ≤ T.size := by unfold chTo; omega
    have hG := ch_go x y T W hT hW hWn p q ms d m (i + 1) (by omega)
    rw [← range_snoc] at hG
    refine Ev.step (f := fun k => shot_Chunks.l0 k (W : Int) T ((List.range i).map (ch65 p q T W) ++ [ch65 p q T W i]) (((T.size + W - 1) / W : Nat) : Int) ((i + 1 : Nat) : Int) p q ms d) (fun k => ?_) hG
    rw [shot_Chunks.l0, if_pos (by omega), e0, e1, e2, if_pos (by omega), if_pos (by omega), if_pos (by omega), if_pos (by rw [List.length_map, List.length_range]; omega), e3, Int.toNat_natCast, Int.toNat_natCast, w1 i (by omega)]
    rfl
/-- the chunks and the error that they come with -/
def chunksS {α : Type} (f : Int → Int → ByteArray → Nat → Nat → α) (a b : Int) (ms : List Int) (d : ByteArray) (w : Int) : List α × Int :=
  if chkS a b ms d = 0 then (if w < 1 then ([], 1) else (chs (f a b (shotT a b ms d) (wd w (shotT a b ms d).size)) (shotT a b ms d).size (wd w (shotT a b ms d).size), 0)) else ([], chkS a b ms d)
theorem shotT_pos {a b : Int} {ms : List Int} {d : ByteArray} : 0 < (shotT a b ms d).size := by
  unfold shotT
  have : 0 < (numS ms.length).size := by
    rw [numS_len]
    unfold encN
    split <;> simp
  rw [size_app, size_app]
  omega
theorem chunks_ev (a b : Int) (ms : List Int) (d : ByteArray) (w : Int) : Ev (fun k => shot_Chunks.f k a b ms d w) (chunksS ch65 a b ms d w) := by
  unfold shot_Chunks.f
  refine Ev.bind (enc_ev a b ms d) ?_
  unfold encS chunksS
  by_cases h : chkS a b ms d = 0
  · rw [if_pos h, if_pos h]
    have hz := shotT_size (fineS h)
    have hp := @shotT_pos a b ms d
    generalize shotT a b ms d = T at hz hp ⊢
    refine Ev.congr (f := fun k => if w < 1 then some ([], 1) else if mn w (T.size : Int) = 0 then none else shot_Chunks.l0 k (mn w (T.size : Int)) T [] (wrap64 (Int.tdiv (wrap64 (wrap64 ((T.size : Int) + mn w (T.size : Int)) - 1)) (mn w (T.size : Int)))) 0 a b ms d) (fun k => if_pos rfl) ?_
    by_cases hw : w < 1
    · simp only [if_pos hw]; exact Ev.now _
    · have hW : 0 < wd w T.size := by unfold wd; omega
      have hWn : wd w T.size ≤ T.size := by unfold wd; omega
      have e : mn w (T.size : Int) = ((wd w T.size : Nat) : Int) := by rw [mn_is]; unfold wd; omega
      have e1 : wrap64 ((T.size : Int) + ((wd w T.size : Nat) : Int)) = ((T.size + wd w T.size : Nat) : Int) := by rw [IntWalk.wrap64_in _ (by omega)]; omega
      have e2 : wrap64 (((T.size + wd w T.size : Nat) : Int) - 1) = ((T.size + wd w T.size - 1 : Nat) : Int) := by rw [IntWalk.wrap64_in _ (by omega)]; omega
      have hq : (T.size + wd w T.size - 1) / wd w T.size ≤ 400000 := Nat.le_trans (Nat.div_le_self _ _) (by omega)
      have e3 : wrap64 (Int.tdiv ((T.size + wd w T.size - 1 : Nat) : Int) ((wd w T.size : Nat) : Int)) = (((T.size + wd w T.size - 1) / wd w T.size : Nat) : Int) := by
        rw [Int.tdiv_eq_ediv_of_nonneg (by omega), ← Int.natCast_ediv]
        exact wrapN _ hq
      rw [if_neg hw]
      refine Ev.congr (f := fun k => shot_Chunks.l0 k ((wd w T.size : Nat) : Int) T ((List.range 0).map (ch65 a b T (wd w T.size))) (((T.size + wd w T.size - 1) / wd w T.size : Nat) : Int) ((0 : Nat) : Int) a b ms d) (fun k => ?_) (ch_go 0 0 T (wd w T.size) (by omega) hW hWn a b ms d ((T.size + wd w T.size - 1) / wd w T.size) 0 (by omega))
      rw [if_neg hw, e, if_neg (by omega), e1, e2, e3]
      rfl
  · rw [if_neg h, if_neg h]
    exact Ev.congr (fun k => if_neg h) (Ev.now _)
/-! ShotWhole: what the chunks give -/
theorem KG.low {g : Nat} {w w' : World} (h : KG g w w') (hg : g < w.heap.size) : Below g w w' := ⟨h.os, h.tape, h.output, h.size, fun k hk => h.block k (by omega) (by omega) (fun e => by omega)⟩
theorem ext_cat (T : ByteArray) (i j : Nat) (h : i ≤ j) : T.extract 0 i ++ T.extract i j = T.extract 0 j := by
  apply nb_inj
  rw [nb_app, nb_extract, nb_extract, nb_extract, List.drop_zero, Nat.sub_zero, Nat.sub_zero]
  have e : j = i + (j - i) := by omega
  conv => rhs; rw [e, List.take_add]
theorem ext_all (T : ByteArray) : T.extract 0 T.size = T := by
  apply nb_inj
  rw [nb_extract, List.drop_zero, Nat.sub_zero, List.take_of_length_le (by rw [nb_len]; exact Nat.le_refl _)]
theorem ext_len (T : ByteArray) (j : Nat) (h : j ≤ T.size) : (T.extract 0 j).size = j := by rw [ByteArray.size_extract]; omega
/-- what is gathered ahead of chunk i -/
def gT (T : ByteArray) (W i : Nat) (a b : Int) : Bool × Int × Int × ByteArray := if i = 0 then (false, 0, 0, ⟨#[]⟩) else (true, a, b, T.extract 0 (i * W))
theorem take_mid {a b : Int} {ms : List Int} {d : ByteArray} (h0 : chkS a b ms d = 0) {W i : Nat} (hW : 0 < W) (hi : i * W < (shotT a b ms d).size) (hl : i * W + W < (shotT a b ms d).size) :
    takeK (gT (shotT a b ms d) W i a b).1 (gT (shotT a b ms d) W i a b).2.1 (gT (shotT a b ms d) W i a b).2.2.1 (gT (shotT a b ms d) W i a b).2.2.2 (ch65 a b (shotT a b ms d) W i) = (gT (shotT a b ms d) W (i + 1) a b, zR ((i * W + W : Nat) : Int)) := by
  have hz := shotT_size (fineS h0)
  generalize shotT a b ms d = T at *
  have hto : chTo T.size W i = i * W + W := by unfold chTo; omega
  have hm : (i + 1) * W = i * W + W := Nat.succ_mul i W
  have hT : takeT a b (T.extract 0 (i * W)) (ch65 a b T W i) = (gT T W (i + 1) a b, zR ((i * W + W : Nat) : Int)) := by
    unfold takeT
    have e1 : (ch65 a b T W i).f4 = T.extract (i * W) (i * W + W) := by unfold ch65; rw [hto]
    have e2 : (ch65 a b T W i).f3 = false := by unfold ch65; rw [hto]; exact decide_eq_false (by omega)
    rw [e1, e2, ext_cat T _ _ (by omega), if_neg (by rw [ext_len T _ (by omega), ByteArray.size_extract]; omega), if_pos rfl, ext_len T _ (by omega)]
    unfold gT
    rw [if_neg (by omega), hm]
  unfold takeK
  by_cases h : i = 0
  · subst h
    rw [if_pos (by unfold ch65; simp)]
    have e : T.extract 0 (0 * W) = ⟨#[]⟩ := by apply nb_inj; rw [nb_extract]; simp [nb]
    rw [e] at hT
    exact hT
  · have hp : 0 < i * W := Nat.mul_pos (by omega) hW
    unfold gT
    rw [if_neg h, if_neg (by show ¬ ((i * W : Nat) : Int) = 0; omega), if_neg (by rintro (h | h | h); cases h; exact h rfl; exact h rfl), if_neg (by rw [ext_len T _ (by omega)]; show ¬ ((i * W : Nat) : Int) ≠ _; simp)]
    exact hT
theorem take_last {a b : Int} {ms : List Int} {d : ByteArray} (h0 : chkS a b ms d = 0) {W i : Nat} (hW : 0 < W) (hi : i * W < (shotT a b ms d).size) (hl : ¬ i * W + W < (shotT a b ms d).size) :
    takeK (gT (shotT a b ms d) W i a b).1 (gT (shotT a b ms d) W i a b).2.1 (gT (shotT a b ms d) W i a b).2.2.1 (gT (shotT a b ms d) W i a b).2.2.2 (ch65 a b (shotT a b ms d) W i) = ((false, 0, 0, ⟨#[]⟩), ((a, b, ms, d), true, 0)) := by
  have hz := shotT_size (fineS h0)
  have hd := dec_shotT h0
  generalize shotT a b ms d = T at *
  have hto : chTo T.size W i = T.size := by unfold chTo; omega
  have hT : takeT a b (T.extract 0 (i * W)) (ch65 a b T W i) = ((false, 0, 0, ⟨#[]⟩), ((a, b, ms, d), true, 0)) := by
    unfold takeT
    have e1 : (ch65 a b T W i).f4 = T.extract (i * W) T.size := by unfold ch65; rw [hto]
    have e2 : (ch65 a b T W i).f3 = true := by unfold ch65; rw [hto]; exact decide_eq_true rfl
    rw [e1, e2, ext_cat T _ _ (by omega), ext_all, if_neg (by rw [ext_len T _ (by omega), ByteArray.size_extract]; omega), if_neg (by simp), hd]
    exact if_neg (by rintro (h | h | h); exact h rfl; exact h rfl; exact h rfl)
  unfold takeK
  by_cases h : i = 0
  · subst h
    rw [if_pos (by unfold ch65; simp)]
    have e : T.extract 0 (0 * W) = ⟨#[]⟩ := by apply nb_inj; rw [nb_extract]; simp [nb]
    rw [e] at hT
    exact hT
  · have hp : 0 < i * W := Nat.mul_pos (by omega) hW
    unfold gT
    rw [if_neg h, if_neg (by show ¬ ((i * W : Nat) : Int) = 0; omega), if_neg (by rintro (h | h | h); cases h; exact h rfl; exact h rfl), if_neg (by rw [ext_len T _ (by omega)]; show ¬ ((i * W : Nat) : Int) ≠ _; simp)]
    exact hT
/-- an elder chunk comes again -/
theorem take_again {a b : Int} {T : ByteArray} {W i k : Nat} (hW : 0 < W) (hk : 0 < k) (hki : k ≤ i) (hl : (i + 1) * W < T.size) :
    takeK (gT T W (i + 1) a b).1 (gT T W (i + 1) a b).2.1 (gT T W (i + 1) a b).2.2.1 (gT T W (i + 1) a b).2.2.2 (ch65 a b T W k) = (gT T W (i + 1) a b, zR (((i + 1) * W : Nat) : Int)) := by
  have h1 : k * W < (i + 1) * W := Nat.mul_lt_mul_of_pos_right (by omega) hW
  have hp : 0 < k * W := Nat.mul_pos hk hW
  unfold takeK gT
  rw [if_neg (show ¬ i + 1 = 0 by omega)]
  simp only
  rw [if_neg (by show ¬ ((k * W : Nat) : Int) = 0; omega), if_neg (by rintro (h | h | h); cases h; exact h rfl; exact h rfl), if_pos (by rw [ext_len T _ (by omega)]; show ((k * W : Nat) : Int) ≠ _; omega), ext_len T _ (by omega)]
/-- a chunk of another snapshot comes between -/
theorem take_other {a b : Int} {T : ByteArray} {W i : Nat} (x : ByteArray) (hW : 0 < W) :
    takeK (gT T W (i + 1) a b).1 (gT T W (i + 1) a b).2.1 (gT T W (i + 1) a b).2.2.1 (gT T W (i + 1) a b).2.2.2 ⟨a, b + 1, (((i + 1) * W : Nat) : Int), true, x⟩ = (gT T W (i + 1) a b, zR 0) := by
  have hp : 0 < (i + 1) * W := Nat.mul_pos (by omega) hW
  unfold takeK gT
  rw [if_neg (show ¬ i + 1 = 0 by omega)]
  simp only
  rw [if_neg (by show ¬ (((i + 1) * W : Nat) : Int) = 0; omega), if_pos (Or.inr (Or.inr (by show b + 1 ≠ b; omega)))]
theorem IsG.lt {w : World} {g : Nat} {b : Bool} {i t : Int} {T : ByteArray} (h : IsG w g b i t T) : g < w.heap.size := by
  obtain ⟨_, v, hg, _⟩ := h
  exact blk_lt hg
theorem IsG.below {w w' : World} {g : Nat} {b : Bool} {i t : Int} {T : ByteArray} (h : IsG w g b i t T) (hb : Below w.heap.size w w') : IsG w' g b i t T := by
  obtain ⟨h1, v, hg, ho⟩ := h
  exact ⟨h1, v, blk_below hg hb, pw_own_below ho hb⟩
theorem newg_calls (w : World) : Calls Try.prog 32 #[] w fun e w' => ∃ g, e = .returned (.pointer (some ⟨g, 0, none⟩)) ∧ IsG w' g false 0 0 ⟨#[]⟩ ∧ w.heap.size ≤ g ∧ Below w.heap.size w w' := by
  have hu := Try.underlying113
  go_enter Try.func32, Try.ntmps32
  go_wp2
  go_ret
  exact ⟨w.heap.size, rfl, ⟨Nat.zero_le _, _, heap_alloc_new w _, own_nil _ _ _ _⟩, Nat.le_refl _, below_alloc (Below.refl _ _) _⟩
theorem wide_ok (x : Int) : 1 ≤ wrap64 (1 + (wrap64 (x.tmod 64 + 64)).tmod 64) ∧ wrap64 (1 + (wrap64 (x.tmod 64 + 64)).tmod 64) ≤ 64 := by
  have h1 := Int.tmod_lt_of_pos x (show (0 : Int) < 64 by decide)
  have h2 := Int.lt_tmod_of_pos x (show (0 : Int) < 64 by decide)
  have e1 : wrap64 (x.tmod 64 + 64) = x.tmod 64 + 64 := IntWalk.wrap64_in _ (by omega)
  rw [e1]
  have h3 := Int.tmod_lt_of_pos (x.tmod 64 + 64) (show (0 : Int) < 64 by decide)
  have h4 : 0 ≤ (x.tmod 64 + 64).tmod 64 := by rw [Int.tmod_eq_emod_of_nonneg (by omega)]; omega
  have e2 : wrap64 (1 + (x.tmod 64 + 64).tmod 64) = 1 + (x.tmod 64 + 64).tmod 64 := IntWalk.wrap64_in _ (by omega)
  rw [e2]
  omega
theorem chs_get {a b : Int} {T : ByteArray} {W j : Nat} (h : j < (T.size + W - 1) / W) : rd_T65 (chs (ch65 a b T W) T.size W) (j : Int) = ch65 a b T W j := by
  unfold rd_T65 chs
  rw [Int.toNat_natCast, List.getD_eq_getElem?_getD, List.getElem?_map, List.getElem?_range h]
  rfl
theorem ch65_size (a b : Int) (T : ByteArray) (W j : Nat) : (ch65 a b T W j).f4.size ≤ T.size := by
  show (T.extract _ _).size ≤ _
  rw [ByteArray.size_extract]; omega
end Go.Proofs.Ythjfofgcikfepaa.Q
