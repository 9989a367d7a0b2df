/- The document's answer: which files are left; files of a disk. -/
import Derived.Outline
import Derived.Deep.DeepCutAuto
import Derived.Test.YtdeakccaecphlaaGreatDoorX2
import Derived.Test.YtdeakccaecphlaaGreatDoorXo
import Derived.Test.YtdeakccaecphlaaGreatDoorXs
namespace Go.Proofs.YtdeakccaecphlaaGreatDoor.Q
open Go.Maps Go.WideShapes Go.WideMaps Go.RowKit Go.Proofs.YtdeakccaecphlaaGreatDoorW.PrintWords Go.Proofs.YtdeakccaecphlaaGreatDoorW.PrintLast Go.Proofs.YtdeakccaecphlaaGreatDoorW.PrintMore
set_option linter.unusedVariables false
set_option linter.unusedSimpArgs false
set_option maxHeartbeats 10000000
set_option maxRecDepth 100000
theorem ref_wide_l0 (n : Nat) (hn : n < 2 ^ 64) (w : Nat) (hw : w ≤ 8) : ∀ d i : Nat, d + i = w → ∀ k, d < k →
  stowageref01_Wide.l0 k ((n / 256 ^ i : Nat) : Int) (List.replicate (w - i) 0 ++ wideL i n) ((w : Int) - 1 - i) = if n / 256 ^ w = 0 then some (strOfNums (wideL w n), 0) else some ((⟨#[]⟩ : ByteArray), 1) := by
 intro d
 induction d with
 | zero =>
  intro i hi k hk
  obtain ⟨k, rfl⟩ : ∃ m, k = m + 1 := ⟨k - 1, by omega⟩
  simp only [stowageref01_Wide.l0]
  obtain rfl : i = w := by omega
  rw [if_neg (by omega)]
  by_cases h : n / 256 ^ i = 0
  ·rw [if_pos (by omega), if_pos h]; simp
  ·rw [if_neg (by omega), if_neg h]
 | succ d ih =>
  intro i hi k hk
  obtain ⟨k, rfl⟩ : ∃ m, k = m + 1 := ⟨k - 1, by omega⟩
  simp only [stowageref01_Wide.l0]
  have hlt : n / 256 ^ i < 2 ^ 64 := Nat.lt_of_le_of_lt (Nat.div_le_self _ _) hn
  have e1 : IntKind.u64.wrap (Int.tdiv ((n / 256 ^ i : Nat) : Int) 256) = ((n / 256 ^ (i + 1) : Nat) : Int) := by
   rw [Nat.pow_succ, ← Nat.div_div_eq_div_mul]
   generalize n / 256 ^ i = q at *
   rw [Int.tdiv_eq_ediv_of_nonneg (by omega), IntWalk.u64_in _ (by omega)]; omega
  have e2 : Int.tmod ((n / 256 ^ i : Nat) : Int) 256 % 256 = ((n / 256 ^ i % 256 : Nat) : Int) := by
   generalize n / 256 ^ i = q at *
   rw [Int.tmod_eq_emod_of_nonneg (by omega)]; omega
  have e3 : wrap64 ((w : Int) - 1 - i - 1) = (w : Int) - 1 - ((i + 1 : Nat) : Int) := by rw [IntWalk.wrap64_in _ (by omega)]; omega
  rw [e1, e2, e3, if_pos (by omega), if_pos (by omega), if_pos (by simp [wideL_len]; omega)]
  rw [show ((w : Int) - 1 - i).toNat = w - 1 - i from by omega, show w - i = (w - 1 - i) + 1 from by omega, set_mid, ← wideL_cons, show w - 1 - i = w - (i + 1) from by omega]
  exact ih (i + 1) (by omega) k (by omega)
theorem ref_wide (n : Nat) (hn : n < 2 ^ 64) (w : Int) (k : Nat) (hk : 11 ≤ k) : stowageref01_Wide.f k n w = some (wide n w) := by
 obtain ⟨k, rfl⟩ : ∃ m, k = m + 1 := ⟨k - 1, by omega⟩
 unfold stowageref01_Wide.f wide
 by_cases h1 : w < 1
 ·rw [if_pos h1, if_pos (.inl h1)]; simp [stowageref01_Wide.j0]
 ·rw [if_neg h1]
  by_cases h2 : 8 < w
  ·rw [if_pos (.inr (.inl h2))]; simp [stowageref01_Wide.j0, h2]
  ·obtain ⟨w, rfl⟩ := Int.eq_ofNat_of_zero_le (show 0 ≤ w by omega)
   simp only [stowageref01_Wide.j0]
   rw [if_neg (by simp; omega), if_pos (Int.natCast_nonneg _), Int.toNat_natCast, if_pos (by omega)]
   have := ref_wide_l0 n hn w (by omega) w 0 (by omega) k (by omega)
   rw [IntWalk.wrap64_in _ (by omega)]
   simp only [Nat.pow_zero, Nat.div_one, Nat.sub_zero, wideL, List.append_nil] at this
   have e : (w : Int) - 1 - ((0 : Nat) : Int) = w - 1 := by omega
   rw [e] at this
   rw [this]
   by_cases h3 : n / 256 ^ w = 0
   ·rw [if_pos h3, if_neg (by omega)]; rfl
   ·rw [if_neg h3, if_pos (.inr (.inr h3))]
theorem ref_rwide_l0 (s : ByteArray) (hs : s.size ≤ 1152921504606846976) (p w : Nat) (hw : w ≤ 8) (hp : p + w ≤ s.size) : ∀ d i : Nat, d + i = w → ∀ k, d < k →
  stowageref01_ReadWide.l0 k s p w (rwide s p i : Nat) ((p + i : Nat) : Int) = some (((rwide s p w : Nat) : Int), ((p + w : Nat) : Int), 0) := by
 intro d
 have e0 : wrap64 ((p : Int) + w) = ((p + w : Nat) : Int) := by rw [IntWalk.wrap64_in _ (by omega)]; omega
 induction d with
 | zero =>
  intro i hi k hk
  obtain ⟨k, rfl⟩ : ∃ m, k = m + 1 := ⟨k - 1, by omega⟩
  simp only [stowageref01_ReadWide.l0]
  obtain rfl : i = w := by omega
  rw [e0, if_neg (by omega)]
 | succ d ih =>
  intro i hi k hk
  obtain ⟨k, rfl⟩ : ∃ m, k = m + 1 := ⟨k - 1, by omega⟩
  simp only [stowageref01_ReadWide.l0]
  have e4 : wrap64 (((p + i : Nat) : Int) + 1) = ((p + (i + 1) : Nat) : Int) := by rw [IntWalk.wrap64_in _ (by omega)]; omega
  rw [e0, e4, if_pos (by omega), if_pos (by omega), if_pos (by omega)]
  have hb := bt_range s ((p + i : Nat) : Int)
  have hr := rwide_lt s p i
  have h7 : 256 ^ i ≤ 256 ^ 7 := Nat.pow_le_pow_right (by decide) (by omega)
  have e5 : IntKind.u64.wrap (IntKind.u64.wrap (((rwide s p i : Nat) : Int) * 256) + IntKind.u64.wrap (bt s ((p + i : Nat) : Int))) = ((rwide s p (i + 1) : Nat) : Int) := by
   rw [IntWalk.u64_in (_ * 256) (by omega), IntWalk.u64_in (bt _ _) (by omega), IntWalk.u64_in _ (by omega)]
   simp only [rwide]; omega
  rw [e5]
  exact ih (i + 1) (by omega) k (by omega)
theorem ref_rwide (s : ByteArray) (hs : s.size ≤ 1152921504606846976) (a w : Int) (k : Nat) (hk : 11 ≤ k) : stowageref01_ReadWide.f k s a w = some (readWide s a w) := by
 obtain ⟨k, rfl⟩ : ∃ m, k = m + 1 := ⟨k - 1, by omega⟩
 unfold stowageref01_ReadWide.f readWide
 by_cases h1 : w < 1
 ·rw [if_pos h1, if_pos (.inl h1)]; simp [stowageref01_ReadWide.j0]
 by_cases h2 : 8 < w
 ·rw [if_neg h1, if_pos h2, if_pos (.inr (.inl h2))]; simp [stowageref01_ReadWide.j0]
 by_cases h3 : a < 0
 ·rw [if_neg h1, if_neg h2, if_pos h3, if_pos (.inr (.inr (.inl h3)))]; simp [stowageref01_ReadWide.j0]
 by_cases h4 : (s.size : Int) < a
 ·rw [if_neg h1, if_neg h2, if_neg h3, if_pos (.inr (.inr (.inr h4)))]; simp [stowageref01_ReadWide.j0, h4]
 rw [if_neg h1, if_neg h2, if_neg h3, if_neg (by omega)]
 simp only [stowageref01_ReadWide.j0]
 rw [if_neg (by simp; omega), IntWalk.wrap64_in ((s.size : Int) - a) (by omega)]
 by_cases h5 : (s.size : Int) - a < w
 ·rw [if_pos h5, if_pos h5]
 ·rw [if_neg h5, if_neg (by omega)]
  obtain ⟨w, rfl⟩ := Int.eq_ofNat_of_zero_le (show 0 ≤ w by omega)
  obtain ⟨p, rfl⟩ := Int.eq_ofNat_of_zero_le (show 0 ≤ a by omega)
  have := ref_rwide_l0 s hs p w (by omega) (by omega) w 0 (by omega) k (by omega)
  simpa [rwide] using this
theorem ref_step (x : Nat) (hx : x < 2 ^ 32) : (if (Int.tmod (x : Int) 2) = 1 then Go.bits .xor .u32 ((Int.tdiv (x : Int) 2) % 4294967296) 3988292384 else (Int.tdiv (x : Int) 2) % 4294967296) = ((st1 x : Nat) : Int) := by
 rw [Int.tmod_eq_emod_of_nonneg (by omega), Int.tdiv_eq_ediv_of_nonneg (by omega)]
 have e : (x : Int) / 2 % 4294967296 = ((x / 2 : Nat) : Int) := by omega
 unfold st1
 by_cases h : x % 2 = 1
 ·rw [if_pos (by omega), if_pos h, e]
  exact xor_u32f _ 3988292384 (by omega) (by decide)
 ·rw [if_neg (by omega), if_neg h, e]; simp
theorem ref_l1 (s : ByteArray) (i : Int) : ∀ d : Nat, d ≤ 8 → ∀ (x k : Nat), x < 2 ^ 32 → d < k → stowageref02_Sum.l1 k s x i ((8 - d : Nat) : Int) = stowageref02_Sum.l0 (k - d - 1) s (stN d x : Nat) (wrap64 (i + 1)) := by
 intro d
 induction d with
 | zero =>
  intro _ x k _ hk
  obtain ⟨k, rfl⟩ : ∃ m, k = m + 1 := ⟨k - 1, by omega⟩
  simp only [stowageref02_Sum.l1]
  rw [if_neg (by omega)]; rfl
 | succ d ih =>
  intro hd x k hx hk
  obtain ⟨k, rfl⟩ : ∃ m, k = m + 1 := ⟨k - 1, by omega⟩
  simp only [stowageref02_Sum.l1]
  have hst := ref_step x hx
  have hw : wrap64 (((8 - (d + 1) : Nat) : Int) + 1) = ((8 - d : Nat) : Int) := by rw [IntWalk.wrap64_in _ (by omega)]; omega
  have hih := ih (by omega) _ k (st1_lt hx) (by omega)
  rw [if_pos (by omega), hw, show k + 1 - (d + 1) - 1 = k - d - 1 by omega]
  by_cases h : (Int.tmod (x : Int) 2) = 1
  ·rw [if_pos h] at hst ⊢; rw [hst, hih]; rfl
  ·rw [if_neg h] at hst ⊢; rw [hst, hih]; rfl
theorem ref_sum_l0 (s : ByteArray) (hs : s.size ≤ 1152921504606846976) : ∀ d i : Nat, d + i = s.size → ∀ (x k : Nat), x < 2 ^ 32 → 10 * d < k → stowageref02_Sum.l0 k s x i = some ((4294967295 - crc x ((nb s).drop i) : Nat) : Int) := by
 intro d
 induction d with
 | zero =>
  intro i hi x k hx hk
  obtain ⟨k, rfl⟩ : ∃ m, k = m + 1 := ⟨k - 1, by omega⟩
  simp only [stowageref02_Sum.l0]
  rw [if_neg (by omega), List.drop_eq_nil_of_le (by rw [nb_len]; omega)]
  have : crc x [] = x := rfl
  rw [this, show (4294967295 - (x : Int)) % 4294967296 = ((4294967295 - x : Nat) : Int) by omega]
 | succ d ih =>
  intro i hi x k hx hk
  obtain ⟨k, rfl⟩ : ∃ m, k = m + 1 := ⟨k - 1, by omega⟩
  have hb := bt_range s i
  simp only [stowageref02_Sum.l0]
  rw [if_pos (by omega), if_pos (by omega), byte_in x hx]
  rw [show (0 : Int) = ((8 - 8 : Nat) : Int) from rfl, ref_l1 s _ 8 (by omega) _ k (Nat.xor_lt_two_pow hx (by omega)) (by omega)]
  rw [show wrap64 ((i : Int) + 1) = ((i + 1 : Nat) : Int) by rw [IntWalk.wrap64_in _ (by omega)]; omega]
  rw [ih (i + 1) (by omega) _ _ (stN_lt 8 (Nat.xor_lt_two_pow hx (by omega))) (by omega)]
  rw [nb_bt s i (by omega)]
  rfl
theorem ref_sum (s : ByteArray) (hs : s.size ≤ 1152921504606846976) (k : Nat) (hk : 10 * s.size < k) : stowageref02_Sum.f k s = some ((sumOf (nb s) : Nat) : Int) := by
 have := ref_sum_l0 s hs s.size 0 (by omega) 4294967295 k (by decide) hk
 simpa [stowageref02_Sum.f, sumOf] using this
theorem ref_unframe (s : ByteArray) (hs : s.size ≤ 1152921504606846976) (a : Int) (k : Nat) (hk : 10 * s.size + 100 < k) : stowageref02_Unframe.f k s a = some (unframe s a) := by
 obtain ⟨k, rfl⟩ : ∃ m, k = m + 1 := ⟨k - 1, by omega⟩
 unfold stowageref02_Unframe.f unframe
 rw [ref_rwide s hs a 4 (k + 1) (by omega)]
 simp only [Option.bind_some]
 by_cases ha : a < 0 ∨ (s.size : Int) < a
 ·have : readWide s a 4 = (0, 0, 1) := by unfold readWide; rw [if_pos (by omega)]
  rw [this, if_pos ha]; simp
 ·rw [if_neg ha]
  obtain ⟨p, rfl⟩ := Int.eq_ofNat_of_zero_le (show 0 ≤ a by omega)
  rw [readWide4 s p (by omega), Int.toNat_natCast]
  unfold unframeN
  by_cases h1 : s.size - p < 4
  ·rw [if_pos h1, if_pos h1]; simp
  ·rw [if_neg h1, if_neg h1]
   simp only [if_true]
   have hr := rwide_lt s p 4
   by_cases h2 : 262144 < rwide s p 4
   ·rw [if_pos (by omega), if_pos h2]
   ·rw [if_neg (by omega), if_neg h2]
    rw [ref_rwide s hs _ 4 (k + 1) (by omega), readWide4 s (p + 4) (by omega)]
    simp only [Option.bind_some]
    by_cases h0 : s.size - (p + 4) < 4
    ·rw [if_pos h0, if_pos (show s.size - (p + 4) < 4 + rwide s p 4 by omega)]
     simp [stowageref02_Unframe.j0]
    ·rw [if_neg h0]
     simp only [if_true, stowageref02_Unframe.j0]
     have w1 : wrap64 ((s.size : Int) - ((p + 4 + 4 : Nat) : Int)) = (s.size : Int) - ((p + 4 + 4 : Nat) : Int) := IntWalk.wrap64_in _ (by omega)
     have w2 : wrap64 ((rwide s p 4 : Nat) : Int) = ((rwide s p 4 : Nat) : Int) := IntWalk.wrap64_in _ (by omega)
     rw [w1, w2]
     by_cases h3 : s.size - (p + 4) < 4 + rwide s p 4
     ·rw [if_pos (decide_eq_true (by omega)), if_pos h3]
     ·rw [if_neg (by simp only [decide_eq_true_eq]; omega), if_neg h3]
      have w3 : wrap64 (((p + 4 + 4 : Nat) : Int) + ((rwide s p 4 : Nat) : Int)) = ((p + 8 + rwide s p 4 : Nat) : Int) := by rw [IntWalk.wrap64_in _ (by omega)]; omega
      rw [w3, if_pos (by omega), if_pos (by omega), if_pos (by omega), if_pos (by omega), if_pos (by omega), if_pos (by omega)]
      simp only [Int.toNat_natCast]
      have hz1 : (s.extract p (p + 4)).size = 4 := by rw [ByteArray.size_extract]; omega
      have hz2 : (s.extract (p + 4 + 4) (p + 8 + rwide s p 4)).size = rwide s p 4 := by rw [ByteArray.size_extract]; omega
      rw [if_pos (by omega), ref_sum _ (by rw [ByteArray.size_append]; omega) k (by rw [ByteArray.size_append]; omega)]
      simp only [Option.bind_some]
      have hl := sumOf_lt (nb (s.extract p (p + 4) ++ s.extract (p + 4 + 4) (p + 8 + rwide s p 4)))
      rw [IntWalk.u64_in _ (by omega)]
      have e8 : p + 4 + 4 = p + 8 := by omega
      simp only [e8]
      by_cases h4 : rwide s (p + 4) 4 = sumOf (nb (s.extract p (p + 4) ++ s.extract (p + 8) (p + 8 + rwide s p 4)))
      ·rw [if_pos (by omega), if_pos h4]
      ·rw [if_neg (by omega), if_neg h4]
theorem ref_frame (s : ByteArray) (k : Nat) (hk : 2621540 < k) : stowageref02_Frame.f k s = some (if 262144 < s.size then (⟨#[]⟩, 2) else (frameS s, 0)) := by
 unfold stowageref02_Frame.f
 by_cases h : 262144 < s.size
 ·rw [if_pos (by omega), if_pos h]
 ·rw [if_neg (by omega), if_neg h]
  rw [IntWalk.u64_in _ (by omega), ref_wide s.size (by omega) 4 k (by omega), wide4 _ (by omega)]
  simp only [Option.bind_some]
  have hw := wideS_size s.size 4
  rw [if_pos (by omega), ref_sum _ (by rw [ByteArray.size_append]; omega) k (by rw [ByteArray.size_append]; omega)]
  simp only [Option.bind_some]
  have hl := sumOf_lt (nb (wideS s.size 4 ++ s))
  rw [IntWalk.u64_in _ (by omega), ref_wide _ (by omega) 4 k (by omega), wide4 _ (by omega)]
  simp only [Option.bind_some]
  rw [if_pos (by rw [wideS_size, wideS_size]; omega), if_pos (by rw [ByteArray.size_append, wideS_size, wideS_size]; omega)]
  rfl
/-! the document's answer: which files are left -/
theorem ref_may (id : ByteArray) (hs : id.size ≤ 1000000) (k : Nat) (hk : 5 * id.size + 2 < k) : stowageref06_May.f k id = some (mayS id) := by
 unfold stowageref06_May.f
 rw [refUnhex_eq id (by omega) k hk, Option.bind_some]
 by_cases h : okHex id
 ·rw [unhex_ok h, if_pos rfl]
  congr 1
  cases hm : mayS id with
  | true => rw [(mayS_iff.1 hm).2]; rfl
  | false =>
   rw [beq_eq_false_iff_ne]
   intro e
   rw [← Bool.not_eq_true, mayS_iff] at hm
   exact hm ⟨h, by omega⟩
 ·have hm : mayS id = false := by rw [← Bool.not_eq_true, mayS_iff]; exact fun hh => h hh.1
  rw [unhex_bad h, if_neg (by decide), hm]
theorem ref_of (n : ByteArray) (hs : n.size ≤ 80) (k : Nat) (hk : 500 < k) : stowageref06_Of.f k n = some (if isX n = true then (idX n, true) else (⟨#[]⟩, false)) := by
 unfold stowageref06_Of.f
 by_cases h : n.size = 66
 ·rw [if_pos (by omega), if_pos (by omega)]
  have hz : (n.extract 2 n.size).size = 64 := by rw [ByteArray.size_extract]; omega
  have hx : isX n = (sameN (n.extract 0 2) nE && mayS (n.extract 2 n.size)) := by
   unfold isX
   rw [decide_eq_true (show 2 ≤ n.size by omega), Bool.true_and]
  have he : ((n.extract 0 2).toList = ([101, 46] : List UInt8)) ↔ sameN (n.extract 0 2) nE = true := by
   rw [ByteArray.toList_eq]
   unfold sameN
   rw [beq_iff_eq]
  rw [hx]
  by_cases h2 : sameN (n.extract 0 2) nE = true
  ·rw [if_pos (he.2 h2), ref_may _ (by omega) k (by omega), Option.bind_some, h2, Bool.true_and]
   split <;> rfl
  ·rw [if_neg (fun e => h2 (he.1 e)), Bool.eq_false_iff.2 h2, Bool.false_and]
   rfl
 ·rw [if_neg (by omega), if_neg]
  intro hx
  obtain ⟨id, h1, rfl⟩ := isX_iff.1 hx
  rw [eId_size, (mayS_iff.1 h1).2] at h
  exact h rfl
theorem ref_frames_go (s : ByteArray) (hs : s.size ≤ 1000000000000) : ∀ (d p : Nat) (done : List ByteArray) (k : Nat), s.size - p < d → p ≤ s.size → done.length ≤ p → 10 * s.size + 100 + d < k →
  stowageref02_Frames.l0 k s done (p : Int) = some (done ++ (framesN s d p).1, ((framesN s d p).2 : Int))
 | 0, p, done, k, hd, hp, hl, hk => by omega
 | d + 1, p, done, k, hd, hp, hl, hk => by
  obtain ⟨k, rfl⟩ : ∃ m, k = m + 1 := ⟨k - 1, by omega⟩
  rw [stowageref02_Frames.l0, framesN]
  by_cases h : p < s.size
  ·rw [if_pos (by omega), ref_unframe s (by omega) _ k (by omega), Option.bind_some, unframe_nat s p hp]
   by_cases h0 : (unframeN s p).2.2 = 0
   ·obtain ⟨q, hq, h1, h2⟩ := unframe_ok s p h0
    have ih := ref_frames_go s hs d q (done ++ [(unframeN s p).1]) k (by omega) h2 (by rw [List.length_append]; simp only [List.length_cons, List.length_nil]; omega) (by omega)
    rw [if_pos h0, if_pos (by omega), if_pos ⟨h, h0⟩, hq, ih, Int.toNat_natCast]
    simp
   ·rw [if_neg h0, if_neg (fun hh => h0 hh.2)]; simp
  ·rw [if_neg (by omega), if_neg (fun hh => h hh.1)]; simp
theorem ref_frames (s : ByteArray) (hs : s.size ≤ 1000000000000) (k : Nat) (hk : 11 * s.size + 200 < k) : stowageref02_Frames.f k s = some ((framesS s).1, ((framesS s).2 : Int)) := by
 have := ref_frames_go s (by omega) (s.size + 1) 0 [] k (by omega) (by omega) (by simp) (by omega)
 exact this
theorem ref_file_l0 (l : List ByteArray) (hl : l.length ≤ 1000000000) (hb : ∀ b ∈ l, b.size ≤ 512) : ∀ (d j : Nat) (t : ByteArray) (k : Nat), j + d = l.length → t.size + d * 600 ≤ 1000000000000 → 2621540 + d < k → stowageref06_File.l0 k l t (j : Int) = some (frsS t (l.drop j))
 | 0, j, t, k, hj, ht, hk => by
  obtain ⟨k, rfl⟩ : ∃ m, k = m + 1 := ⟨k - 1, by omega⟩
  rw [stowageref06_File.l0, if_neg (by omega), List.drop_of_length_le (by omega)]
  rfl
 | d + 1, j, t, k, hj, ht, hk => by
  obtain ⟨k, rfl⟩ : ∃ m, k = m + 1 := ⟨k - 1, by omega⟩
  have hlt : j < l.length := by omega
  have hx : rdOf ByteArray.empty l (j : Int) = l[j] := by
   unfold rdOf
   rw [Int.toNat_natCast, List.getD_eq_getElem?_getD, List.getElem?_eq_getElem hlt]; rfl
  have hz := hb l[j] (List.getElem_mem hlt)
  have hf := frameS_size l[j]
  have ih := ref_file_l0 l hl hb d (j + 1) (t ++ frameS l[j]) k (by omega) (by rw [ByteArray.size_append]; omega) (by omega)
  rw [stowageref06_File.l0, if_pos (by omega), if_pos (by omega), hx, ref_frame _ k (by omega), if_neg (by omega), Option.bind_some]
  simp only
  rw [if_pos (by omega), IntWalk.wrap64_in _ (by omega), show (j : Int) + 1 = ((j + 1 : Nat) : Int) by omega, ih, List.drop_eq_getElem_cons hlt]
  rfl
theorem ref_file (s : ByteArray) (hs : s.size ≤ 1000000) (k : Nat) (hk : 4000000 < k) : stowageref06_File.f k s = some (laidS s) := by
 unfold stowageref06_File.f
 have h1 := pcs_len 512 s.size s
 rw [show (512 : Int) = ((512 : Nat) : Int) from rfl, ref_cut 512 (by decide) s (by omega) k (by omega), Option.bind_some]
 have := ref_file_l0 (piecesS 512 s) (by unfold piecesS; omega) (pcs_size 512 _ s) (piecesS 512 s).length 0 ⟨#[]⟩ k (by omega) (by unfold piecesS; have e : (⟨#[]⟩ : ByteArray).size = 0 := rfl; omega) (by unfold piecesS; omega)
 rw [List.drop_zero] at this
 exact this
theorem right_of (id file : ByteArray) : rightS id file = (!sameN (jointS file) ⟨#[]⟩ && (decide ((jointS file).size ≤ 4096) && (sameN (laidS (jointS file)) file && sameN (idS (jointS file)) id))) := by
 unfold rightS
 by_cases h : sameN (laidS (jointS file)) file = true
 ·have hf := frames_laid (jointS file)
  rw [sameN_iff.1 h] at hf
  have : (framesS file).2 = file.size := by rw [hf]
  rw [decide_eq_true this, Bool.true_and, h, Bool.true_and, Bool.and_true]
 ·rw [Bool.not_eq_true] at h
  rw [h]
  simp
theorem ref_right_j (id file X : ByteArray) (k : Nat) (hk : 4000000 < k) : stowageref06_Right.j1 (k + 1) id file X = some (if (!sameN X ⟨#[]⟩ && (decide (X.size ≤ 4096) && (sameN (laidS X) file && sameN (idS X) id))) = true then (X, true) else (⟨#[]⟩, false)) := by
 rw [stowageref06_Right.j1]
 have he : (X.toList = ([] : List UInt8)) ↔ sameN X ⟨#[]⟩ = true := by rw [sameN_nil, List.isEmpty_iff]
 by_cases h1 : sameN X ⟨#[]⟩ = true
 ·rw [if_pos (he.2 h1), h1]; rfl
 ·rw [if_neg (fun e => h1 (he.1 e)), Bool.eq_false_iff.2 h1]
  by_cases h2 : X.size ≤ 4096
  ·rw [if_neg (by omega), decide_eq_true h2, ref_file X (by omega) k hk, Option.bind_some]
   by_cases h3 : sameN (laidS X) file = true
   ·rw [if_pos (beq_iff_eq.1 ((eq_sameN _ _).trans h3)), h3, ref_id X (by omega) k (by omega), Option.bind_some]
    by_cases h4 : sameN (idS X) id = true
    ·rw [if_pos (beq_iff_eq.1 ((eq_sameN _ _).trans h4)), h4]; rfl
    ·rw [if_neg (fun e => h4 ((eq_sameN _ _).symm.trans (beq_iff_eq.2 e))), Bool.eq_false_iff.2 h4]; rfl
   ·rw [if_neg (fun e => h3 ((eq_sameN _ _).symm.trans (beq_iff_eq.2 e))), Bool.eq_false_iff.2 h3]; rfl
  ·rw [if_pos (by omega), decide_eq_false h2]; rfl
theorem sumS_take (l : List ByteArray) (j : Nat) : sumS (l.take j) ≤ sumS l := by
 conv => rhs; rw [← List.take_append_drop j l]
 unfold sumS
 rw [List.map_append, List.sum_append]
 omega
theorem ref_right_go (id file : ByteArray) (hf : file.size ≤ 1000000000) : ∀ (d j k : Nat), j + d = (framesS file).1.length → 4000000 + d + 2 < k →
  stowageref06_Right.l0 k id file (framesS file).1 (joinS ((framesS file).1.take j)) (j : Int) = some (if rightS id file = true then (jointS file, true) else (⟨#[]⟩, false))
 | 0, j, k, hj, hk => by
  obtain ⟨k, rfl⟩ : ∃ m, k = m + 2 := ⟨k - 2, by omega⟩
  rw [stowageref06_Right.l0, if_neg (by omega), List.take_of_length_le (by omega), ref_right_j _ _ _ k (by omega), ← right_of]
 | d + 1, j, k, hj, hk => by
  obtain ⟨k, rfl⟩ : ∃ m, k = m + 2 := ⟨k - 2, by omega⟩
  have hlt : j < (framesS file).1.length := by omega
  have hsm := frames_sum file
  have hst := sumS_take (framesS file).1 (j + 1)
  have hx : rdOf ByteArray.empty (framesS file).1 (j : Int) = (framesS file).1[j] := by
   unfold rdOf
   rw [Int.toNat_natCast, List.getD_eq_getElem?_getD, List.getElem?_eq_getElem hlt]; rfl
  rw [stowageref06_Right.l0, if_pos (by omega)]
  by_cases h : (joinS ((framesS file).1.take j)).size ≤ 4096
  ·have ih := ref_right_go id file hf d (j + 1) (k + 1) (by omega) (by omega)
   have e : joinS ((framesS file).1.take (j + 1)) = joinS ((framesS file).1.take j) ++ (framesS file).1[j] := by rw [List.take_succ_eq_append_getElem hlt, joinS_snoc]
   have hz := congrArg ByteArray.size e
   rw [joinS_size, ByteArray.size_append] at hz
   rw [e] at ih
   rw [if_pos (by omega), if_pos (by omega), hx, if_pos (by omega), IntWalk.wrap64_in _ (by omega), show (j : Int) + 1 = ((j + 1 : Nat) : Int) by omega]
   exact ih
  ·have h2 : ¬ (jointS file).size ≤ 4096 := by
    have := sumS_take (framesS file).1 j
    rw [joinS_size] at h ⊢
    omega
   have hr : rightS id file = false := by
    unfold rightS
    rw [decide_eq_false h2]
    simp
   rw [if_neg (by omega), ref_right_j _ _ _ k (by omega), decide_eq_false h, hr]
   simp
theorem ref_right (id file : ByteArray) (hf : file.size ≤ 10000000) (k : Nat) (hk : 200000000 < k) : stowageref06_Right.f k id file = some (if rightS id file = true then (jointS file, true) else (⟨#[]⟩, false)) := by
 unfold stowageref06_Right.f
 have := (frames_sum file).2
 rw [ref_frames file (by omega) k (by omega), Option.bind_some]
 exact ref_right_go id file (by omega) _ 0 k (Nat.zero_add _) (by omega)
/-! files -/
def filesL (l : Fs) : List S28 := l.map (fun p => ⟨p.1, p.2⟩)
theorem nameS_size {s : ByteArray} (h : nameS s = true) : s.size ≤ 80 := by
 unfold nameS at h
 rw [Bool.and_eq_true, decide_eq_true_iff] at h
 exact h.2.2
structure Fine (st : DK) : Prop where
 up : st.down = false
 ris : Rises st.now
 named : Named st.now
 len : st.now.length ≤ 1000000
theorem getF_mem : ∀ {l : Fs}, Rises l → ∀ {p : ByteArray × ByteArray}, p ∈ l → getF l p.1 = p.2
 | [], _, _, hp => by cases hp
 | q :: l, hd, p, hp => by
  obtain ⟨g1, g2⟩ := List.pairwise_cons.1 hd
  unfold getF
  rw [List.find?_cons]
  rcases List.mem_cons.1 hp with rfl | hp
  ·rw [sameN_iff.2 rfl]; rfl
  ·have : sameN q.1 p.1 = false := by rw [← Bool.not_eq_true, sameN_iff]; exact ltN_ne (g1 p hp)
   rw [this]
   exact getF_mem g2 hp
theorem Fine.read {st : DK} (h : Fine st) {p : ByteArray × ByteArray} (hp : p ∈ st.now) : readE st p.1 = 0 ∧ readS st p.1 = p.2 := by
 have h0 : askE st.down [p.1] = 0 := by
  unfold askE
  rw [h.up, if_neg (by simp), if_pos (by rw [List.all_cons, h.named p hp]; rfl)]
 have h1 : hasF st.now p.1 = true := hasF_iff.2 ⟨p, hp, rfl⟩
 have h2 : readE st p.1 = 0 := by unfold readE; rw [if_pos h0, if_pos h1]
 refine ⟨h2, ?_⟩
 unfold readS
 rw [if_pos h2]
 exact getF_mem h.ris hp
theorem files_calls {w : World} {d : Nat} {ok : Nat → Prop} {st : DK} (h : IsD w d ok st) (hf : Fine st) :
  Calls Tryz.prog 9 #[.pointer (some ⟨d, 0, none⟩)] w fun e w' => ∃ v, e = .returned v ∧ k28.R 28 w' w.heap.size (fun k => w.heap.size ≤ k) v (filesL st.now) ∧ Below w.heap.size w w' := by
 have H := Aside0.mk h
 have HF := Aside0.mk hf
 clear h hf
 go_enter Tryz.func9, Tryz.ntmps9
 go_wp2_with (fail)
 refine (names_calls H.out HF.out.up HF.out.ris (by have := HF.out.len; omega)).mono ?_
 rintro e w1 ⟨v, rfl, hR, hb⟩
 obtain ⟨A, c, rfl, hlc, hC⟩ := Kd.R_reads hR
 have hln : (namesF st.now).length = st.now.length := List.length_map ..
 rw [hln] at hC ⊢
 have B1 := Aside0.mk hb
 have HM := Aside0.mk hln
 have HL := Aside0.mk HF.out.len
 obtain ⟨n, hn⟩ : ∃ n, n = st.now.length := ⟨_, rfl⟩
 have HNN := Aside0.mk hn
 rw [← hn] at hC ⊢
 have HC := Aside0.mk hC
 clear hR hb hC hln hlc hn
 go_wp2_with (fail)
 have H1 := Aside0.mk (H.out.below B1.out)
 go_loopg [3, 5, 6, 7] (n + 1) (fun kq v3 v5 v6 v7 w' => ∃ (j : Nat), v5 = .int .i64 (j : Int) ∧ Aside0 (j + kq = n + 1 ∧ j ≤ n) ∧ Aside0 (k28.R 28 w' w1.heap.size (fun k => w1.heap.size ≤ k) v3 (filesL (st.now.take j))) ∧ Aside0 (Below w1.heap.size w1 w'))
 case atStart => exact ⟨0, rfl, ⟨by omega, by omega⟩, ⟨Kd.R_nil _ _ _ _ _⟩, ⟨Below.refl _ _⟩⟩
 case round =>
  obtain ⟨j, rfl, HJ, HR, HB⟩ := hrel
  cases gk with
  | zero => have := HJ.out; omega
  | succ k1 =>
   by_cases hj : j < n
   ·have hlt : ((j : Int) < (n : Int)) = True := eq_true (by omega)
    have hj2 : j < st.now.length := by have := HNN.out; omega
    obtain ⟨p, hp⟩ : ∃ p, st.now[j]? = some p := ⟨_, List.getElem?_eq_getElem hj2⟩
    have hmem : p ∈ st.now := List.mem_of_getElem? hp
    have hrd : rdOf ByteArray.empty (namesF st.now) (j : Int) = p.1 := by
     unfold rdOf namesF
     rw [Int.toNat_natCast, List.getD_eq_getElem?_getD, List.getElem?_map, hp]
     rfl
    have HP := Aside0.mk hp
    have HRE := Aside0.mk (HF.out.read hmem)
    have HSZ := Aside0.mk (nameS_size (HF.out.named p hmem))
    obtain ⟨ad, e, h0⟩ := (Kd.reads_of_C (enc := Value.string) (d := ByteArray.empty) (Kd.C_below HC.out HB.out)).at_ (j : Int) (by omega) (by omega)
    rw [Int.toNat_natCast, hrd] at h0
    subst e
    clear hp hmem hj2
    go_wp2_with (fail)
    refine (read_calls (H1.out.below HB.out) p.1 (Nat.le_trans HSZ.out (by decide))).mono ?_
    rintro e w2 ⟨rfl, hb⟩
    have B2 : Aside0 (Below w1.heap.size w1 w2) := ⟨HB.out.trans (hb.mono HB.out.size)⟩
    have R2 := Aside0.mk (Kd.R_below HR.out hb)
    obtain ⟨ad', e, h2⟩ := (Kd.reads_of_C (enc := Value.string) (d := ByteArray.empty) (Kd.C_below HC.out B2.out)).at_ (j : Int) (by omega) (by omega)
    rw [Int.toNat_natCast, hrd] at h2
    injection e with e
    subst e
    rw [HRE.out.1, HRE.out.2]
    clear h0 hrd hb
    go_wp2_with (first | ((with_reducible refine gate_builtin (b := .append) (xs := #[.tmp 25, .tmp 32]) rfl ?_); at_builtin; refine Kd.R_append k28 (w0 := w1) w1.heap.size rfl (.tmp 25) (.tmp 32) 22 28 (.agg #[(.string ⟨#[]⟩), (.string ⟨#[]⟩)]) 32 rfl Tryz.underlying22 info28 rfl (by decide) (by omega) u3 (filesL (st.now.take j)) (⟨p.1, p.2⟩ : S28) [.string p.1, .string p.2] (fun k => w1.heap.size ≤ k) (fun _ => False) rfl rfl (k28_mkM _ _ _ (⟨p.1, p.2⟩ : S28)) (fun _ hk => hk.elim) (fun k hk => Nat.le_trans B2.out.size hk) R2.out B2.out B2.out.size ?aL ?_; (case aL => have := HL.out; have := HJ.out; have := HNN.out; simp only [filesL, List.length_map, List.length_take]; omega); intro v5 w5 ho hb hg hat; have HO5 := Aside0.mk ho; have HB5 := Aside0.mk hb; clear ho hb hg hat))
    go_roundg k1
    case measure => have := HJ.out; omega
    case rel =>
     refine ⟨j + 1, by rw [IntWalk.wrap64_in _ (by have := HL.out; have := HNN.out; omega)]; rfl, ⟨by have := HJ.out; omega, by omega⟩, ⟨?_⟩, HB5⟩
     have e : filesL (st.now.take (j + 1)) = filesL (st.now.take j) ++ [⟨p.1, p.2⟩] := by
      obtain ⟨hl, hx⟩ := List.getElem?_eq_some_iff.1 HP.out
      unfold filesL
      rw [List.take_succ_eq_append_getElem hl, List.map_append, hx]
      rfl
     rw [e]
     exact HO5.out
   ·obtain rfl : j = n := by have := HJ.out; omega
    have hlt : ((j : Int) < (j : Int)) = False := eq_false (by omega)
    go_wp2
    go_ret
    refine ⟨_, rfl, ?_, B1.out.trans (HB.out.mono B1.out.size)⟩
    have h := HR.out
    rw [HNN.out, List.take_length] at h
    exact Kd.R_mono (Kd.R_lower h B1.out.size) (fun k hk => Nat.le_trans B1.out.size hk)
noncomputable def gonP (p : ByteArray × ByteArray) : Bool := isX p.1 && !rightS (idX p.1) p.2
noncomputable def stayP (p : ByteArray × ByteArray) : Bool := !sameN p.1 nEN && !gonP p
theorem ref_open_go (l : Fs) (hl : l.length ≤ 1000000) (hn : ∀ p ∈ l, p.1.size ≤ 80 ∧ p.2.size ≤ 10000000) : ∀ (d j k : Nat), j + d = l.length → 200000001 + d < k →
  stowageref06_Open.l0 k (filesL l) (filesL ((l.take j).filter stayP)) ((((l.take j).filter gonP).length : Nat) : Int) (j : Int) = some (filesL (l.filter stayP), (((l.filter gonP).length : Nat) : Int))
 | 0, j, k, hj, hk => by
  obtain ⟨k, rfl⟩ : ∃ m, k = m + 1 := ⟨k - 1, by omega⟩
  have e : (filesL l).length = l.length := List.length_map ..
  rw [stowageref06_Open.l0, if_neg (by omega), List.take_of_length_le (by omega)]
 | d + 1, j, k, hj, hk => by
  obtain ⟨k, rfl⟩ : ∃ m, k = m + 1 := ⟨k - 1, by omega⟩
  have hlt : j < l.length := by omega
  have e : (filesL l).length = l.length := List.length_map ..
  obtain ⟨p, hp⟩ : ∃ p, l[j] = p := ⟨_, rfl⟩
  have hm : p ∈ l := hp ▸ List.getElem_mem hlt
  have hz := hn p hm
  have hx : rd_T28 (filesL l) (j : Int) = ⟨p.1, p.2⟩ := by
   unfold rd_T28 filesL
   rw [Int.toNat_natCast, List.getD_eq_getElem?_getD, List.getElem?_map, List.getElem?_eq_getElem hlt, hp]; rfl
  have htk : l.take (j + 1) = l.take j ++ [p] := by rw [List.take_succ_eq_append_getElem hlt, hp]
  have ih := ref_open_go l hl hn d (j + 1) k (by omega) (by omega)
  have hw : wrap64 ((j : Int) + 1) = ((j + 1 : Nat) : Int) := by rw [IntWalk.wrap64_in _ (by omega)]; omega
  have hlen : (filesL ((l.take j).filter stayP)).length ≤ 1000000 := by
   have h1 : (filesL ((l.take j).filter stayP)).length = ((l.take j).filter stayP).length := List.length_map ..
   have h2 := List.length_filter_le stayP (l.take j)
   rw [List.length_take] at h2
   omega
  have hgl : ((l.take j).filter gonP).length ≤ 1000000 := by
   have h2 := List.length_filter_le gonP (l.take j)
   rw [List.length_take] at h2
   omega
  rw [htk, List.filter_append, List.filter_append] at ih
  have hne : (p.1.toList = ([101, 46, 110, 101, 119] : List UInt8)) ↔ sameN p.1 nEN = true := by
   rw [← eq_sameN, beq_iff_eq, ByteArray.toList_eq nEN]
  rw [stowageref06_Open.l0, if_pos (by omega), if_pos (by omega), hx]
  simp only
  rw [ref_of p.1 hz.1 k (by omega), Option.bind_some, hw]
  by_cases h1 : sameN p.1 nEN = true
  ·have hg : gonP p = false := by
    have : p.1 = nEN := sameN_iff.1 h1
    unfold gonP
    rw [this, isX_new]; rfl
   have hs : stayP p = false := by unfold stayP; rw [h1]; rfl
   rw [if_pos (hne.2 h1)]
   rw [show List.filter stayP [p] = [] by rw [List.filter_cons, if_neg (by rw [hs]; simp)]; rfl, show List.filter gonP [p] = [] by rw [List.filter_cons, if_neg (by rw [hg]; simp)]; rfl, List.append_nil, List.append_nil] at ih
   exact ih
  ·rw [if_neg (fun e => h1 (hne.1 e))]
   have app : ∀ (hs : stayP p = true) (hg : gonP p = false), stowageref06_Open.l0 k (filesL l) (filesL ((l.take j).filter stayP) ++ [(⟨p.1, p.2⟩ : S28)]) ((((l.take j).filter gonP).length : Nat) : Int) ((j + 1 : Nat) : Int) = some (filesL (l.filter stayP), (((l.filter gonP).length : Nat) : Int)) := by
    intro hs hg
    rw [show List.filter stayP [p] = [p] by rw [List.filter_cons, if_pos hs]; rfl, show List.filter gonP [p] = [] by rw [List.filter_cons, if_neg (by rw [hg]; simp)]; rfl, List.append_nil] at ih
    rw [← ih]
    congr 1
    unfold filesL
    rw [List.map_append]
    rfl
   by_cases h2 : isX p.1 = true
   ·rw [if_pos h2]
    simp only [if_true]
    rw [ref_right _ _ hz.2 k (by omega), Option.bind_some]
    by_cases h3 : rightS (idX p.1) p.2 = true
    ·have hg : gonP p = false := by unfold gonP; rw [h3]; simp
     have hs : stayP p = true := by unfold stayP; rw [hg, Bool.eq_false_iff.2 h1]; rfl
     rw [if_pos h3, if_pos rfl, if_pos (by omega)]
     exact app hs hg
    ·have hg : gonP p = true := by unfold gonP; rw [h2, Bool.eq_false_iff.2 h3]; rfl
     have hs : stayP p = false := by unfold stayP; rw [hg]; simp
     rw [if_neg h3, if_neg (by simp), IntWalk.wrap64_in _ (by omega)]
     rw [show List.filter stayP [p] = [] by rw [List.filter_cons, if_neg (by rw [hs]; simp)]; rfl, show List.filter gonP [p] = [p] by rw [List.filter_cons, if_pos hg]; rfl, List.append_nil, List.length_append] at ih
     rw [show ((((l.take j).filter gonP).length : Nat) : Int) + 1 = ((((l.take j).filter gonP).length + [p].length : Nat) : Int) by simp]
     exact ih
   ·have hg : gonP p = false := by unfold gonP; rw [Bool.eq_false_iff.2 h2]; rfl
    have hs : stayP p = true := by unfold stayP; rw [hg, Bool.eq_false_iff.2 h1]; rfl
    rw [if_neg h2]
    simp only
    rw [if_neg (by simp), if_pos (by omega)]
    exact app hs hg
theorem mem_gone {l : Fs} (h : Rises l) {p : ByteArray × ByteArray} (hp : p ∈ l) : isIn (goneX l) p.1 = !stayP p := by
 have hh : hasF l p.1 = true := hasF_iff.2 ⟨p, hp, rfl⟩
 have hgt := getF_some h hp
 unfold stayP
 rw [Bool.not_and, Bool.not_not, Bool.not_not]
 cases hs : (sameN p.1 nEN || gonP p) with
 | true =>
  rw [isIn_iff]
  rw [Bool.or_eq_true] at hs
  rcases hs with hs | hs
  ·have e := sameN_iff.1 hs
   refine List.mem_append.2 (Or.inl ?_)
   unfold newL
   rw [← e, if_pos hh]
   exact List.mem_singleton.2 rfl
  ·unfold gonP at hs
   rw [Bool.and_eq_true] at hs
   obtain ⟨id, h1, h2⟩ := isX_iff.1 hs.1
   rw [h2] at hh hgt hs
   rw [show idX (nE ++ id) = id from idX_e id] at hs
   refine List.mem_append.2 (Or.inr (mem_badL.2 ⟨id, mem_allX.2 ⟨h1, hh⟩, ?_, h2⟩))
   unfold badX
   rw [show getF l (eId id) = p.2 from hgt]
   exact hs.2
 | false =>
  rw [← Bool.not_eq_true, isIn_iff]
  rw [Bool.or_eq_false_iff] at hs
  intro hg
  rcases List.mem_append.1 hg with hg | hg
  ·unfold newL at hg
   split at hg
   ·rw [List.mem_singleton] at hg
    have := hs.1
    rw [sameN_iff.2 hg] at this
    cases this
   ·cases hg
  ·obtain ⟨id, h1, h2, h3⟩ := mem_badL.1 hg
   have h4 := (mem_allX.1 h1).1
   have := hs.2
   unfold gonP at this
   rw [h3] at hgt this
   rw [isX_e h4, show idX (eId id) = id from idX_e id, Bool.true_and] at this
   unfold badX at h2
   rw [show getF l (eId id) = p.2 from hgt, this] at h2
   cases h2
theorem openX_stay {l : Fs} (h : Rises l) : openX l = l.filter stayP := by
 unfold openX
 rw [dels_eq h]
 refine List.filter_congr (fun p hp => ?_)
 rw [mem_gone h hp, Bool.not_not]
theorem manyX_gon {l : Fs} (h : Rises l) : manyX l = (l.filter gonP).length := by
 unfold manyX badL allX
 rw [List.length_map, List.filter_map, List.length_map, List.filter_filter, List.filter_map, List.length_map]
 congr 1
 refine List.filter_congr (fun p hp => ?_)
 show (badX l (idX p.1) && isX p.1) = gonP p
 unfold gonP
 rw [Bool.and_comm]
 cases hx : isX p.1 with
 | false => rfl
 | true =>
  rw [Bool.true_and, Bool.true_and]
  obtain ⟨id, h1, h2⟩ := isX_iff.1 hx
  have hgt := getF_some h hp
  unfold badX
  rw [h2] at hgt ⊢
  rw [show idX (nE ++ id) = id from idX_e id, show getF l (eId id) = p.2 from hgt]
theorem ref_open {l : Fs} (h : Rises l) (hl : l.length ≤ 1000000) (hn : ∀ p ∈ l, p.1.size ≤ 80 ∧ p.2.size ≤ 10000000) (k : Nat) (hk : 202000000 < k) : stowageref06_Open.f k (filesL l) = some (filesL (openX l), ((manyX l : Nat) : Int)) := by
 have := ref_open_go l hl hn l.length 0 k (by omega) (by omega)
 rw [openX_stay h, manyX_gon h]
 exact this
/-! opened again nothing is done -/
theorem open_again {l : Fs} (h : Rises l) : goneX (openX l) = [] ∧ manyX (openX l) = 0 ∧ openX (openX l) = openX l := by
 have hr : Rises (openX l) := dels_rises _ h
 have hst : ∀ p ∈ openX l, stayP p = true := by
  rw [openX_stay h]
  exact fun p hp => (List.mem_filter.1 hp).2
 have h1 : newL (openX l) = [] := by
  unfold newL
  rw [if_neg]
  rw [hasF_iff]
  rintro ⟨p, hp, e⟩
  have := hst p hp
  unfold stayP at this
  rw [sameN_iff.2 e] at this
  cases this
 have h2 : badL (openX l) (allX (openX l)) = [] := by
  rw [List.eq_nil_iff_forall_not_mem]
  intro g hg
  obtain ⟨id, h3, h4, _⟩ := mem_badL.1 hg
  obtain ⟨h5, h6⟩ := mem_allX.1 h3
  obtain ⟨p, hp, e⟩ := hasF_iff.1 h6
  have hgt := getF_some hr hp
  have hs := hst p hp
  unfold stayP gonP at hs
  rw [e] at hgt hs
  rw [isX_e h5, show idX (eId id) = id from idX_e id] at hs
  unfold badX at h4
  rw [hgt] at h4
  rw [h4] at hs
  simp at hs
 have h3 : goneX (openX l) = [] := by unfold goneX; rw [h1, h2]; rfl
 exact ⟨h3, by unfold manyX; rw [h2]; rfl, by show delsF (openX l) (goneX (openX l)) = openX l; rw [h3]; rfl⟩
end Go.Proofs.YtdeakccaecphlaaGreatDoor.Q
