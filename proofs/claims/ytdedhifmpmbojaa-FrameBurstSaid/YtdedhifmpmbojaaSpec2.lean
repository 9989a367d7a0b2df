/- A frame that is cut off is none, and frames ahead of it are found: of the plain functions that the calls come to; for every input. -/
import Derived.Test.YtdedhifmpmbojaaSpec
namespace Go.Proofs.Ytdedhifmpmbojaa.Pure
open Go.RowKit Go.Proofs.Ytdedhifmpmbojaa.Q Go.Proofs.YtdedhifmpmbojaaW.PrintWords Go.Proofs.YtdedhifmpmbojaaW.PrintLast Go.Proofs.YtdedhifmpmbojaaW.PrintMore
set_option linter.unusedVariables false
theorem nb_inj {a b : ByteArray} (h : nb a = nb b) : a = b := by
  apply ByteArray.ext
  apply Array.toList_inj.1
  exact (List.map_inj_right (f := UInt8.toNat) (fun x y hxy => UInt8.toNat_inj.1 hxy)).1 h
theorem nb_extract (s : ByteArray) (a b : Nat) : nb (s.extract a b) = ((nb s).drop a).take (b - a) := by
  simp [nb, ByteArray.data_extract, List.map_take, List.map_drop, List.extract_eq_take_drop]
theorem nb_strOf (l : List Int) (h : ∀ x ∈ l, 0 ≤ x ∧ x < 256) : nb (strOfNums l) = l.map Int.toNat := by
  simp only [nb, strOfNums, List.map_map]
  apply List.map_congr_left
  intro x hx
  have := h x hx
  simp only [Function.comp, UInt8.toNat_ofNat']
  omega
theorem wideL_range : ∀ w n, ∀ x ∈ wideL w n, 0 ≤ x ∧ x < 256 := by
  intro w
  induction w with
  | zero => intro n x hx; cases hx
  | succ w ih =>
    intro n x hx
    rcases List.mem_append.1 hx with hx | hx
    · exact ih _ x hx
    · simp only [List.mem_singleton] at hx
      omega
def wideN (n w : Nat) : List Nat := (wideL w n).map Int.toNat
theorem nb_wideS (n w : Nat) : nb (wideS n w) = wideN n w := nb_strOf _ (wideL_range w n)
theorem wideN_len (n w : Nat) : (wideN n w).length = w := by simp [wideN, wideL_len]
/-- the number that bytes say -/
def rdw (l : List Nat) : Nat := l.foldl (fun x b => x * 256 + b) 0
theorem rdw_snoc (l : List Nat) (b : Nat) : rdw (l ++ [b]) = rdw l * 256 + b := by simp [rdw]
theorem rdw_wide : ∀ w n, n < 256 ^ w → rdw (wideN n w) = n := by
  intro w
  induction w with
  | zero => intro n h; simp [wideN, wideL, rdw]; omega
  | succ w ih =>
    intro n h
    have e : wideN n (w + 1) = wideN (n / 256) w ++ [n % 256] := by simp [wideN, wideL]; omega
    rw [e, rdw_snoc, ih _ (by rw [Nat.pow_succ] at h; exact Nat.div_lt_of_lt_mul (by omega))]
    omega
theorem rwide_rdw (s : ByteArray) (p : Nat) : ∀ w, p + w ≤ s.size → rwide s p w = rdw (((nb s).drop p).take w) := by
  intro w
  induction w with
  | zero => intro _; rfl
  | succ w ih =>
    intro h
    have h1 := nb_bt s (p + w) (by omega)
    have e : ((nb s).drop p).take (w + 1) = ((nb s).drop p).take w ++ [(bt s ((p + w : Nat) : Int)).toNat] := by
      rw [List.take_add_one, List.getElem?_drop]
      have : (nb s)[p + w]? = some (bt s ((p + w : Nat) : Int)).toNat := by
        have h2 := congrArg (fun l => l[0]?) h1
        simpa using h2
      rw [this]; rfl
    rw [rwide, ih (by omega), e, rdw_snoc]
def frameN (b : List Nat) : List Nat := wideN b.length 4 ++ wideN (sumOf (wideN b.length 4 ++ b)) 4 ++ b
theorem nb_frameS (s : ByteArray) : nb (frameS s) = frameN (nb s) := by
  simp only [frameS, frameN, nb_app, nb_wideS, nb_len]
theorem frameN_len (b : List Nat) : (frameN b).length = 8 + b.length := by simp [frameN, wideN_len]; omega
/-- what is framed is found -/
theorem unframe_frame (s b : ByteArray) (p : Nat) (post : List Nat) (hp : p ≤ s.size) (hb : b.size ≤ 262144) (h : (nb s).drop p = frameN (nb b) ++ post) : unframeN s p = (b, ((p + (8 + b.size) : Nat) : Int), 0) := by
  have hl := congrArg List.length h
  rw [List.length_drop, nb_len, List.length_append, frameN_len, nb_len] at hl
  have hw := wideN_len b.size 4
  have hw2 := wideN_len (sumOf (wideN b.size 4 ++ nb b)) 4
  have hfr : frameN (nb b) = wideN b.size 4 ++ (wideN (sumOf (wideN b.size 4 ++ nb b)) 4 ++ nb b) := by simp [frameN, nb_len]
  have r1 : rwide s p 4 = b.size := by
    rw [rwide_rdw s p 4 (by omega), h, hfr, List.append_assoc, List.take_append_of_le_length (by omega), List.take_of_length_le (by omega), rdw_wide 4 _ (by omega)]
  have r2 : rwide s (p + 4) 4 = sumOf (wideN b.size 4 ++ nb b) := by
    rw [rwide_rdw s (p + 4) 4 (by omega), ← List.drop_drop, h, hfr, List.append_assoc, List.drop_append_of_le_length (by omega), List.drop_of_length_le (by omega), List.nil_append, List.append_assoc,
      List.take_append_of_le_length (by omega), List.take_of_length_le (by omega), rdw_wide 4 _ (sumOf_lt _)]
  have eb : s.extract (p + 8) (p + 8 + b.size) = b := by
    apply nb_inj
    rw [nb_extract, show p + 8 + b.size - (p + 8) = b.size by omega, ← List.drop_drop, h, hfr, List.append_assoc]
    rw [show (8 : Nat) = 4 + 4 from rfl, ← List.drop_drop, List.drop_append_of_le_length (by omega), List.drop_of_length_le (l := wideN b.size 4) (by omega), List.nil_append, List.append_assoc, List.drop_append_of_le_length (by omega), List.drop_of_length_le (by omega), List.nil_append,
      List.take_append_of_le_length (by rw [nb_len]; exact Nat.le_refl _), List.take_of_length_le (by rw [nb_len]; exact Nat.le_refl _)]
  have eh : nb (s.extract p (p + 4)) = wideN b.size 4 := by
    rw [nb_extract, h, hfr, List.append_assoc, show p + 4 - p = 4 by omega, List.take_append_of_le_length (by omega), List.take_of_length_le (by omega)]
  unfold unframeN
  rw [r1, if_neg (by omega), if_neg (by omega), if_neg (by omega), r2, eb, nb_app, eh, if_pos rfl]
  rw [show p + 8 + b.size = p + (8 + b.size) by omega]
/-- a frame that ends early is none -/
theorem unframe_torn (s b : ByteArray) (p k : Nat) (hp : p ≤ s.size) (hb : b.size ≤ 262144) (hk : k < 8 + b.size) (h : (nb s).drop p = (frameN (nb b)).take k) : unframeN s p = (⟨#[]⟩, 0, 5) := by
  have hl := congrArg List.length h
  rw [List.length_drop, nb_len, List.length_take, frameN_len, nb_len] at hl
  have hl' : s.size - p = k := by omega
  have hw := wideN_len b.size 4
  unfold unframeN
  by_cases h4 : s.size - p < 4
  · rw [if_pos h4]
  · rw [if_neg h4]
    have r1 : rwide s p 4 = b.size := by
      rw [rwide_rdw s p 4 (by omega), h, List.take_take, show min 4 k = 4 by omega]
      have hfr : frameN (nb b) = wideN b.size 4 ++ (wideN (sumOf (wideN b.size 4 ++ nb b)) 4 ++ nb b) := by simp [frameN, nb_len]
      rw [hfr, List.take_append_of_le_length (by omega), List.take_of_length_le (by omega), rdw_wide 4 _ (by omega)]
    rw [r1, if_neg (by omega), if_pos (by omega)]
theorem oct_frames_l0 (s : ByteArray) (hs : s.size ≤ 1152921504606846976) (bs : List ByteArray) (tail : List Nat) (hb : ∀ b ∈ bs, b.size ≤ 262144) : ∀ (rest done : List ByteArray) (p k : Nat), done ++ rest = bs →
    (nb s).drop p = (rest.flatMap fun b => frameN (nb b)) ++ tail → p ≤ s.size → bs.length ≤ 1000000 → (tail = [] ∨ (unframeN s (s.size - tail.length)).2.2 ≠ 0) → 10 * s.size + rest.length + 200 < k →
    frame_Frames.l0 k s done p = some (bs, ((s.size - tail.length : Nat) : Int)) := by
  intro rest
  induction rest with
  | nil =>
    intro done p k hd ht hp hn htl hk
    obtain ⟨k, rfl⟩ : ∃ m, k = m + 1 := ⟨k - 1, by omega⟩
    have hl := congrArg List.length ht
    simp only [List.flatMap_nil, List.nil_append, List.length_drop, nb_len] at hl
    simp only [List.append_nil] at hd
    subst hd
    simp only [frame_Frames.l0]
    rcases htl with rfl | htl
    · simp only [List.length_nil] at hl
      rw [if_neg (by omega), show p = s.size by omega]; simp
    · by_cases h : (p : Int) < s.size
      · rw [if_pos h, oct_unframe s hs _ k (by omega)]
        simp only [Option.bind_some]
        have e : unframe s (p : Int) = unframeN s (s.size - tail.length) := by
          unfold unframe
          rw [if_neg (by omega), show (p : Int).toNat = s.size - tail.length by omega]
        rw [e, if_neg htl, show p = s.size - tail.length by omega]
      · rw [if_neg h, show p = s.size - tail.length by omega]
  | cons b rest ih =>
    intro done p k hd ht hp hn htl hk
    obtain ⟨k, rfl⟩ : ∃ m, k = m + 1 := ⟨k - 1, by omega⟩
    have hb' : b.size ≤ 262144 := hb b (by rw [← hd]; simp)
    have hl := congrArg List.length ht
    simp only [List.flatMap_cons, List.length_drop, nb_len, List.length_append, frameN_len] at hl
    have hu := unframe_frame s b p ((rest.flatMap fun b => frameN (nb b)) ++ tail) hp hb' (by rw [ht, List.flatMap_cons, List.append_assoc])
    simp only [frame_Frames.l0]
    rw [if_pos (by omega), oct_unframe s hs _ k (by simp at hk; omega)]
    simp only [Option.bind_some]
    have e : unframe s (p : Int) = (b, ((p + (8 + b.size) : Nat) : Int), 0) := by
      unfold unframe
      rw [if_neg (by omega), Int.toNat_natCast, hu]
    have hdl := congrArg List.length hd
    simp only [List.length_append, List.length_cons] at hdl
    rw [e]
    simp only [if_true]
    rw [if_pos (by omega)]
    refine ih (done ++ [b]) _ k (by rw [← hd]; simp) ?_ (by omega) hn htl (by simp at hk; omega)
    rw [← List.drop_drop, ht, List.flatMap_cons, List.append_assoc, List.drop_append_of_le_length (by rw [frameN_len, nb_len]; exact Nat.le_refl _), List.drop_of_length_le (by rw [frameN_len, nb_len]; exact Nat.le_refl _), List.nil_append]
theorem same_l0 (a : List ByteArray) (hn : a.length ≤ 1152921504606846976) : ∀ (d i k : Nat), d + i = a.length → d < k → stowagelaw01_Same.l0 k a a i = some true := by
  intro d
  induction d with
  | zero =>
    intro i k hi hk
    obtain ⟨k, rfl⟩ : ∃ m, k = m + 1 := ⟨k - 1, by omega⟩
    simp only [stowagelaw01_Same.l0]
    rw [if_neg (by omega)]
  | succ d ih =>
    intro i k hi hk
    obtain ⟨k, rfl⟩ : ∃ m, k = m + 1 := ⟨k - 1, by omega⟩
    simp only [stowagelaw01_Same.l0]
    rw [if_pos (by omega), if_pos (by omega), if_pos (by omega), if_pos trivial, IntWalk.wrap64_in _ (by omega)]
    exact ih (i + 1) k (by omega) (by omega)
theorem same_self (a : List ByteArray) (hn : a.length ≤ 1152921504606846976) (k : Nat) (hk : a.length < k) : stowagelaw01_Same.f k a a = some true := by
  unfold stowagelaw01_Same.f
  rw [if_pos rfl]
  exact same_l0 a hn a.length 0 k (by omega) hk
theorem torn_end (b all : ByteArray) (bs : List ByteArray) (kk k : Nat) (hb : b.size ≤ 262144) (hkk : kk < 8 + b.size) (hbs : ∀ b ∈ bs, b.size ≤ 262144) (hall : nb all = bs.flatMap fun b => frameN (nb b)) (hn : bs.length ≤ 20) (hsz : all.size ≤ 5243040) (hk : 100000000 < k) :
    ((frame_Unframe.f k ((frameS b).extract 0 kk) 0).bind fun bt193 => (if all.size + ((frameS b).extract 0 kk).size ≤ 9223372036854775807 then ((frame_Frames.f k (all ++ ((frameS b).extract 0 kk))).bind fun bt196 => ((stowagelaw02_awake.f k).bind fun t200 => (if t200 = true then (if bt193.2.2 = 5 then ((stowagelaw01_Same.f k bt196.1 bs).bind fun t201 => (if t201 = true then (some (bt196.2 == (all.size : Int))) else (some false))) else (some false)) else (some false)))) else (none))) = some true := by
  have hz : ((frameS b).extract 0 kk).size = kk := by rw [ByteArray.size_extract, frameS_size]; omega
  have hnb : nb ((frameS b).extract 0 kk) = (frameN (nb b)).take kk := by rw [nb_extract, nb_frameS]; simp
  rw [oct_unframe _ (by omega) 0 k (by omega)]
  simp only [Option.bind_some]
  rw [if_pos (by omega)]
  have hu : unframe ((frameS b).extract 0 kk) 0 = (⟨#[]⟩, 0, 5) := by
    unfold unframe
    rw [if_neg (by omega)]
    exact unframe_torn _ b 0 kk (by omega) hb hkk (by simpa using hnb)
  have hsz2 : (all ++ ((frameS b).extract 0 kk)).size = all.size + kk := by rw [ByteArray.size_append, hz]
  have hlen : ((frameN (nb b)).take kk).length = kk := by rw [List.length_take, frameN_len, nb_len]; omega
  have hdrop : (nb (all ++ ((frameS b).extract 0 kk))).drop all.size = (frameN (nb b)).take kk := by
    rw [nb_app, hnb, List.drop_append_of_le_length (by rw [nb_len]; exact Nat.le_refl _), List.drop_of_length_le (by rw [nb_len]; exact Nat.le_refl _), List.nil_append]
  have hf := oct_frames_l0 (all ++ ((frameS b).extract 0 kk)) (by omega) bs ((frameN (nb b)).take kk) hbs bs [] 0 k rfl (by rw [List.drop_zero, nb_app, hall, hnb]) (by omega) (by omega)
    (Or.inr (by
      rw [hsz2, hlen, Nat.add_sub_cancel, unframe_torn _ b all.size kk (by omega) hb hkk hdrop]
      decide)) (by omega)
  have hf' : frame_Frames.f k (all ++ ((frameS b).extract 0 kk)) = some (bs, (all.size : Int)) := by
    unfold frame_Frames.f
    rw [hsz2, hlen, Nat.add_sub_cancel] at hf
    exact hf
  rw [hf']
  simp only [Option.bind_some]
  rw [awake_true k (by omega)]
  simp only [Option.bind_some, if_true]
  rw [hu, same_self bs (by omega) k (by omega)]
  simp
theorem torn_loop (l : List ByteArray) (hl : l.length ≤ 1152921504606846976) (b : ByteArray) (kk : Nat) (hb : b.size ≤ 262144) (hkk : kk < 8 + b.size) : ∀ (d i : Nat), d + i = 20 → ∀ (all : ByteArray) (bs : List ByteArray) (k : Nat), (∀ b ∈ bs, b.size ≤ 262144) → (nb all = bs.flatMap fun b => frameN (nb b)) → bs.length ≤ i → i ≤ l.length →
    all.size ≤ i * 262152 → 100000000 + 2 * d + 4 < k → stowagelaw02_FrameTorn.l0 k l (frameS b) kk all bs i = some true := by
  have hfz := frameS_size b
  intro d
  induction d with
  | zero =>
    intro i hi all bs k hbs hall hn hil hsz hk
    obtain ⟨k, rfl⟩ : ∃ m, k = m + 2 := ⟨k - 2, by omega⟩
    have hd : decide ((i : Int) < 20) = false := decide_eq_false (by omega)
    have fin : stowagelaw02_FrameTorn.j1 (k + 1) l (frameS b) kk all bs i false = some true := by
      simp only [stowagelaw02_FrameTorn.j1]
      rw [if_neg (by simp), if_pos (by omega), if_pos (by omega), Int.toNat_natCast]
      exact torn_end b all bs kk k hb hkk hbs hall (by omega) (by omega) (by omega)
    simp only [stowagelaw02_FrameTorn.l0]
    rw [hd]
    split <;> exact fin
  | succ d ih =>
    intro i hi all bs k hbs hall hn hil hsz hk
    obtain ⟨k, rfl⟩ : ∃ m, k = m + 2 := ⟨k - 2, by omega⟩
    have hd : decide ((i : Int) < 20) = true := decide_eq_true (by omega)
    simp only [stowagelaw02_FrameTorn.l0]
    rw [hd]
    by_cases h : (i : Int) < l.length
    · rw [if_pos h]
      simp only [stowagelaw02_FrameTorn.j1]
      rw [if_pos trivial, if_pos (by omega), if_pos h, oct_frame _ k (by omega)]
      simp only [Option.bind_some]
      have hw : wrap64 ((i : Int) + 1) = ((i + 1 : Nat) : Int) := by rw [IntWalk.wrap64_in _ (by omega)]; omega
      rw [hw]
      generalize rdOf ByteArray.empty l i = x
      by_cases hx : 262144 < x.size
      · rw [if_pos hx]
        simp only
        rw [if_neg (by decide)]
        have q1 : all.size ≤ (i + 1) * 262152 := Nat.le_trans hsz (Nat.mul_le_mul_right _ (Nat.le_succ i))
        have q2 : 100000000 + 2 * d + 4 < k := by omega
        have q3 : i + 1 ≤ l.length := by omega
        exact ih (i + 1) (by omega) all bs k hbs hall (Nat.le_succ_of_le hn) q3 q1 q2
      · rw [if_neg hx]
        have hxz := frameS_size x
        simp only [if_true]
        rw [if_pos (by omega), if_pos (by omega)]
        refine ih (i + 1) (by omega) (all ++ frameS x) (bs ++ [x]) k ?_ ?_ (by simp; omega) (by omega) (by rw [ByteArray.size_append]; omega) (by omega)
        · intro c hc
          rcases List.mem_append.1 hc with hc | hc
          · exact hbs c hc
          · simp only [List.mem_singleton] at hc; subst hc; omega
        · rw [nb_app, hall, nb_frameS]; simp
    · rw [if_neg h]
      simp only [stowagelaw02_FrameTorn.j1]
      rw [if_neg (by simp), if_pos (by omega), if_pos (by omega), Int.toNat_natCast]
      exact torn_end b all bs kk k hb hkk hbs hall (by omega) (by omega) (by omega)
theorem FrameTorn (l : List ByteArray) (hl : l.length ≤ 1152921504606846976) (last : ByteArray) (cut : Int) (hc : -9223372036854775808 ≤ cut ∧ cut ≤ 9223372036854775807) : stowagelaw02_FrameTorn.f 200000000 l last cut = some true := by
  unfold stowagelaw02_FrameTorn.f
  rw [oct_frame last _ (by omega)]
  simp only [Option.bind_some]
  by_cases h : 262144 < last.size
  · rw [if_pos h]
    simp only
    rw [if_neg (by decide), awake_true _ (by omega)]
    simp only [Option.bind_some, if_true]
    simp; omega
  · rw [if_neg h]
    have hz := frameS_size last
    simp only [if_true]
    rw [if_neg (by omega), if_neg (by omega)]
    generalize hn : (frameS last).size = n at *
    have hpos : (0 : Int) < n := by omega
    have hm1 : -(n : Int) < Int.tmod cut n := by
      have := Int.lt_tmod_of_pos cut hpos
      exact this
    have hm2 : Int.tmod cut n < n := Int.tmod_lt_of_pos cut hpos
    have e1 : wrap64 (Int.tmod cut n + n) = Int.tmod cut n + n := IntWalk.wrap64_in _ (by omega)
    rw [e1]
    have hm3 : 0 ≤ Int.tmod (Int.tmod cut n + n) n := Int.tmod_nonneg _ (by omega)
    have hm4 : Int.tmod (Int.tmod cut n + n) n < n := Int.tmod_lt_of_pos _ hpos
    obtain ⟨kk, hkk⟩ := Int.eq_ofNat_of_zero_le hm3
    rw [hkk] at hm4 ⊢
    exact torn_loop l hl last kk (by omega) (by omega) 20 0 (by omega) ⟨#[]⟩ [] _ (by simp) rfl (by simp) (by omega) (by decide) (by omega)

end Go.Proofs.Ytdedhifmpmbojaa.Pure
