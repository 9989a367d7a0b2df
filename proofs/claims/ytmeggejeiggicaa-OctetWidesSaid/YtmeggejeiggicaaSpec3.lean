/- Wide numbers, written and read, of the program and of the reference. -/
import Derived.Test.YtmeggejeiggicaaSpec
import Derived.Test.YtmeggejeiggicaaQx6
namespace Go.Proofs.Ytmeggejeiggicaa.Pure
open Go.RowKit Go.Proofs.Ytmeggejeiggicaa.Q Go.Proofs.YtmeggejeiggicaaW.PrintWords Go.Proofs.YtmeggejeiggicaaW.PrintLast Go.Proofs.YtmeggejeiggicaaW.PrintMore
set_option linter.unusedVariables false
/-- the bytes of a wide number, the highest first -/
def wideL : Nat → Nat → List Int
  | 0, _ => []
  | w + 1, n => wideL w (n / 256) ++ [((n % 256 : Nat) : Int)]
theorem wideL_len : ∀ w n, (wideL w n).length = w := by
  intro w
  induction w with
  | zero => intro n; rfl
  | succ w ih => intro n; simp [wideL, ih]
theorem wideL_cons : ∀ w n, wideL (w + 1) n = ((n / 256 ^ w % 256 : Nat) : Int) :: wideL w n := by
  intro w
  induction w with
  | zero => intro n; simp [wideL]
  | succ w ih =>
    intro n
    rw [wideL, ih (n / 256), wideL, Nat.div_div_eq_div_mul, Nat.pow_succ', List.cons_append]
theorem set_mid (m : Nat) (v : Int) (l : List Int) : (List.replicate (m + 1) (0 : Int) ++ l).set m v = List.replicate m 0 ++ v :: l := by
  rw [List.replicate_succ']
  have h : (List.replicate m (0:Int)).length = m := List.length_replicate
  rw [List.append_assoc, List.set_append_right _ _ (by omega), h, Nat.sub_self]
  rfl
theorem pow256 (i : Nat) : 256 ^ i = 2 ^ (8 * i) := by rw [show (256:Nat) = 2 ^ 8 from rfl, ← Nat.pow_mul]
theorem oct_wide_l0 (n : Nat) (hn : n < 2 ^ 64) (w : Nat) (hw : w ≤ 8) : ∀ d i : Nat, d + i = w → ∀ k, d < k →
    octet_Wide.l0 k n w (List.replicate (w - i) 0 ++ wideL i n) w i = some (strOfNums (wideL w n), 0) := by
  intro d
  induction d with
  | zero =>
    intro i hi k hk
    obtain ⟨k, rfl⟩ : ∃ m, k = m + 1 := ⟨k - 1, by omega⟩
    simp only [octet_Wide.l0]
    obtain rfl : i = w := by omega
    rw [if_neg (by omega)]; simp
  | succ d ih =>
    intro i hi k hk
    obtain ⟨k, rfl⟩ : ∃ m, k = m + 1 := ⟨k - 1, by omega⟩
    simp only [octet_Wide.l0]
    have e1 : wrap64 (8 * (i : Int)) = 8 * i := IntWalk.wrap64_in _ (by omega)
    have e2 : wrap64 ((w : Int) - 1) = w - 1 := IntWalk.wrap64_in _ (by omega)
    have e3 : wrap64 ((w : Int) - 1 - i) = ((w - 1 - i : Nat) : Int) := by rw [IntWalk.wrap64_in _ (by omega)]; omega
    have e4 : wrap64 ((i : Int) + 1) = ((i + 1 : Nat) : Int) := by rw [IntWalk.wrap64_in _ (by omega)]; omega
    rw [e1, e2, e3, e4, if_pos (by omega), if_pos (by omega), if_pos (by omega), if_pos (by simp [wideL_len]; omega)]
    have e5 : shr .u64 (n : Int) (8 * (i : Int)) % 256 = ((n / 256 ^ i % 256 : Nat) : Int) := by
      unfold shr
      rw [show min (8 * (i : Int)).toNat IntKind.u64.bits = 8 * i from by simp [IntKind.bits]; omega, pow256]
      simp
    rw [e5, Int.toNat_natCast, show w - i = (w - 1 - i) + 1 from by omega, set_mid, ← wideL_cons, show w - 1 - i = w - (i + 1) from by omega]
    exact ih (i + 1) (by omega) k (by omega)
theorem ref_wide_l0 (n : Nat) (hn : n < 2 ^ 64) (w : Nat) (hw : w ≤ 8) : ∀ d i : Nat, d + i = w → ∀ k, d < k →
    stowageref01_Wide.l0 k ((n / 256 ^ i : Nat) : Int) (List.replicate (w - i) 0 ++ wideL i n) ((w : Int) - 1 - i) = if n / 256 ^ w = 0 then some (strOfNums (wideL w n), 0) else some ((⟨#[]⟩ : ByteArray), 1) := by
  intro d
  induction d with
  | zero =>
    intro i hi k hk
    obtain ⟨k, rfl⟩ : ∃ m, k = m + 1 := ⟨k - 1, by omega⟩
    simp only [stowageref01_Wide.l0]
    obtain rfl : i = w := by omega
    rw [if_neg (by omega)]
    by_cases h : n / 256 ^ i = 0
    · rw [if_pos (by omega), if_pos h]; simp
    · rw [if_neg (by omega), if_neg h]
  | succ d ih =>
    intro i hi k hk
    obtain ⟨k, rfl⟩ : ∃ m, k = m + 1 := ⟨k - 1, by omega⟩
    simp only [stowageref01_Wide.l0]
    have hlt : n / 256 ^ i < 2 ^ 64 := Nat.lt_of_le_of_lt (Nat.div_le_self _ _) hn
    have e1 : IntKind.u64.wrap (Int.tdiv ((n / 256 ^ i : Nat) : Int) 256) = ((n / 256 ^ (i + 1) : Nat) : Int) := by
      rw [Nat.pow_succ, ← Nat.div_div_eq_div_mul]
      generalize n / 256 ^ i = q at *
      rw [Int.tdiv_eq_ediv_of_nonneg (by omega), IntWalk.u64_in _ (by omega)]; omega
    have e2 : Int.tmod ((n / 256 ^ i : Nat) : Int) 256 % 256 = ((n / 256 ^ i % 256 : Nat) : Int) := by
      generalize n / 256 ^ i = q at *
      rw [Int.tmod_eq_emod_of_nonneg (by omega)]; omega
    have e3 : wrap64 ((w : Int) - 1 - i - 1) = (w : Int) - 1 - ((i + 1 : Nat) : Int) := by rw [IntWalk.wrap64_in _ (by omega)]; omega
    rw [e1, e2, e3, if_pos (by omega), if_pos (by omega), if_pos (by simp [wideL_len]; omega)]
    rw [show ((w : Int) - 1 - i).toNat = w - 1 - i from by omega, show w - i = (w - 1 - i) + 1 from by omega, set_mid, ← wideL_cons, show w - 1 - i = w - (i + 1) from by omega]
    exact ih (i + 1) (by omega) k (by omega)
def wideS (n w : Nat) : ByteArray := strOfNums (wideL w n)
theorem wideS_size (n w : Nat) : (wideS n w).size = w := by unfold wideS; rw [strOfNums_size, wideL_len]
/-- a number in so many bytes, or that it can't be -/
def wide (n : Nat) (w : Int) : ByteArray × Int := if w < 1 ∨ 8 < w ∨ n / 256 ^ w.toNat ≠ 0 then (⟨#[]⟩, 1) else (wideS n w.toNat, 0)
theorem oct_wide (n : Nat) (hn : n < 2 ^ 64) (w : Int) (k : Nat) (hk : 11 ≤ k) : octet_Wide.f k n w = some (wide n w) := by
  obtain ⟨k, rfl⟩ : ∃ m, k = m + 1 := ⟨k - 1, by omega⟩
  unfold octet_Wide.f wide
  by_cases h1 : w < 1
  · rw [if_pos h1, if_pos (.inl h1)]; simp [octet_Wide.j0]
  · rw [if_neg h1]
    by_cases h2 : 8 < w
    · rw [if_pos h2, if_pos (.inr (.inl h2))]; simp [octet_Wide.j0]
    · rw [if_neg h2]
      obtain ⟨w, rfl⟩ := Int.eq_ofNat_of_zero_le (show 0 ≤ w by omega)
      have fin : ∀ b : Bool, (b = true ↔ n / 256 ^ w ≠ 0) → octet_Wide.j0 (k + 1) n w b = some (if (w : Int) < 1 ∨ 8 < (w : Int) ∨ n / 256 ^ (w : Int).toNat ≠ 0 then (⟨#[]⟩, 1) else (wideS n (w : Int).toNat, 0)) := by
        intro b hb
        simp only [octet_Wide.j0]
        rw [Int.toNat_natCast]
        by_cases h3 : n / 256 ^ w = 0
        · have hb' : ¬ b = true := fun e => hb.1 e h3
          rw [if_neg hb', if_pos (Int.natCast_nonneg _), if_pos (by omega), if_neg (fun h => h.elim h1 fun h => h.elim h2 fun h => h h3)]
          have := oct_wide_l0 n hn w (by omega) w 0 (by omega) k (by omega)
          simpa [wideL, wideS] using this
        · rw [if_pos (hb.2 h3), if_pos (.inr (.inr h3))]
      by_cases h3 : (w : Int) < 8
      · rw [if_pos h3]
        have e1 : wrap64 (8 * (w : Int)) = 8 * w := IntWalk.wrap64_in _ (by omega)
        rw [e1, if_pos (by omega)]
        apply fin
        unfold shr
        rw [show min (8 * (w : Int)).toNat IntKind.u64.bits = 8 * w from by simp [IntKind.bits]; omega, pow256]
        rw [bne_iff_ne]
        have : ((n : Int) / 2 ^ (8 * w)) = ((n / 2 ^ (8 * w) : Nat) : Int) := by simp
        rw [this]; omega
      · rw [if_neg h3]
        apply fin
        obtain rfl : w = 8 := by omega
        have : n / 256 ^ 8 = 0 := Nat.div_eq_of_lt (by omega)
        simp [this]
theorem ref_wide (n : Nat) (hn : n < 2 ^ 64) (w : Int) (k : Nat) (hk : 11 ≤ k) : stowageref01_Wide.f k n w = some (wide n w) := by
  obtain ⟨k, rfl⟩ : ∃ m, k = m + 1 := ⟨k - 1, by omega⟩
  unfold stowageref01_Wide.f wide
  by_cases h1 : w < 1
  · rw [if_pos h1, if_pos (.inl h1)]; simp [stowageref01_Wide.j0]
  · rw [if_neg h1]
    by_cases h2 : 8 < w
    · rw [if_pos (.inr (.inl h2))]; simp [stowageref01_Wide.j0, h2]
    · obtain ⟨w, rfl⟩ := Int.eq_ofNat_of_zero_le (show 0 ≤ w by omega)
      simp only [stowageref01_Wide.j0]
      rw [if_neg (by simp; omega), if_pos (Int.natCast_nonneg _), Int.toNat_natCast, if_pos (by omega)]
      have := ref_wide_l0 n hn w (by omega) w 0 (by omega) k (by omega)
      rw [IntWalk.wrap64_in _ (by omega)]
      simp only [Nat.pow_zero, Nat.div_one, Nat.sub_zero, wideL, List.append_nil] at this
      have e : (w : Int) - 1 - ((0 : Nat) : Int) = w - 1 := by omega
      rw [e] at this
      rw [this]
      by_cases h3 : n / 256 ^ w = 0
      · rw [if_pos h3, if_neg (by omega)]; rfl
      · rw [if_neg h3, if_pos (.inr (.inr h3))]
/-- a wide number that stands in bytes -/
def rwide (s : ByteArray) (p : Nat) : Nat → Nat
  | 0 => 0
  | i + 1 => rwide s p i * 256 + (bt s ((p + i : Nat) : Int)).toNat
theorem rwide_lt (s : ByteArray) (p : Nat) : ∀ i, rwide s p i < 256 ^ i := by
  intro i
  induction i with
  | zero => simp [rwide]
  | succ i ih =>
    have := bt_range s ((p + i : Nat) : Int)
    simp only [rwide]
    rw [Nat.pow_succ]; omega
theorem oct_rwide_l0 (s : ByteArray) (hs : s.size ≤ 1152921504606846976) (p w : Nat) (hw : w ≤ 8) (hp : p + w ≤ s.size) : ∀ d i : Nat, d + i = w → ∀ k, d < k →
    octet_ReadWide.l0 k s p w (rwide s p i : Nat) w i = some (((rwide s p w : Nat) : Int), ((p + w : Nat) : Int), 0) := by
  intro d
  induction d with
  | zero =>
    intro i hi k hk
    obtain ⟨k, rfl⟩ : ∃ m, k = m + 1 := ⟨k - 1, by omega⟩
    simp only [octet_ReadWide.l0]
    obtain rfl : i = w := by omega
    rw [if_neg (by omega), IntWalk.wrap64_in _ (by omega)]; simp
  | succ d ih =>
    intro i hi k hk
    obtain ⟨k, rfl⟩ : ∃ m, k = m + 1 := ⟨k - 1, by omega⟩
    simp only [octet_ReadWide.l0]
    have e1 : wrap64 ((p : Int) + i) = ((p + i : Nat) : Int) := by rw [IntWalk.wrap64_in _ (by omega)]; omega
    have e4 : wrap64 ((i : Int) + 1) = ((i + 1 : Nat) : Int) := by rw [IntWalk.wrap64_in _ (by omega)]; omega
    rw [e1, e4, if_pos (by omega), if_pos (by omega), if_pos (by omega)]
    have hb := bt_range s ((p + i : Nat) : Int)
    have hr := rwide_lt s p i
    have h7 : 256 ^ i ≤ 256 ^ 7 := Nat.pow_le_pow_right (by decide) (by omega)
    have e5 : Go.bits .or .u64 (IntKind.u64.wrap (((rwide s p i : Nat) : Int) * 256)) (IntKind.u64.wrap (bt s ((p + i : Nat) : Int))) = ((rwide s p (i + 1) : Nat) : Int) := by
      rw [IntWalk.u64_in _ (by omega), IntWalk.u64_in _ (by omega)]
      rw [bits_join .u64 64 (by decide) (wraps_u64 64 (by decide)) 8 _ _ (by omega) (by omega) (by omega) (by omega) (by omega) (by omega)]
      simp only [rwide]; omega
    rw [e5]
    exact ih (i + 1) (by omega) k (by omega)
theorem ref_rwide_l0 (s : ByteArray) (hs : s.size ≤ 1152921504606846976) (p w : Nat) (hw : w ≤ 8) (hp : p + w ≤ s.size) : ∀ d i : Nat, d + i = w → ∀ k, d < k →
    stowageref01_ReadWide.l0 k s p w (rwide s p i : Nat) ((p + i : Nat) : Int) = some (((rwide s p w : Nat) : Int), ((p + w : Nat) : Int), 0) := by
  intro d
  have e0 : wrap64 ((p : Int) + w) = ((p + w : Nat) : Int) := by rw [IntWalk.wrap64_in _ (by omega)]; omega
  induction d with
  | zero =>
    intro i hi k hk
    obtain ⟨k, rfl⟩ : ∃ m, k = m + 1 := ⟨k - 1, by omega⟩
    simp only [stowageref01_ReadWide.l0]
    obtain rfl : i = w := by omega
    rw [e0, if_neg (by omega)]
  | succ d ih =>
    intro i hi k hk
    obtain ⟨k, rfl⟩ : ∃ m, k = m + 1 := ⟨k - 1, by omega⟩
    simp only [stowageref01_ReadWide.l0]
    have e4 : wrap64 (((p + i : Nat) : Int) + 1) = ((p + (i + 1) : Nat) : Int) := by rw [IntWalk.wrap64_in _ (by omega)]; omega
    rw [e0, e4, if_pos (by omega), if_pos (by omega), if_pos (by omega)]
    have hb := bt_range s ((p + i : Nat) : Int)
    have hr := rwide_lt s p i
    have h7 : 256 ^ i ≤ 256 ^ 7 := Nat.pow_le_pow_right (by decide) (by omega)
    have e5 : IntKind.u64.wrap (IntKind.u64.wrap (((rwide s p i : Nat) : Int) * 256) + IntKind.u64.wrap (bt s ((p + i : Nat) : Int))) = ((rwide s p (i + 1) : Nat) : Int) := by
      rw [IntWalk.u64_in (_ * 256) (by omega), IntWalk.u64_in (bt _ _) (by omega), IntWalk.u64_in _ (by omega)]
      simp only [rwide]; omega
    rw [e5]
    exact ih (i + 1) (by omega) k (by omega)
def readWide (s : ByteArray) (a w : Int) : Int × Int × Int :=
  if w < 1 ∨ 8 < w ∨ a < 0 ∨ (s.size : Int) < a then (0, 0, 1) else if (s.size : Int) - a < w then (0, 0, 5) else (((rwide s a.toNat w.toNat : Nat) : Int), a + w, 0)
theorem oct_rwide (s : ByteArray) (hs : s.size ≤ 1152921504606846976) (a w : Int) (k : Nat) (hk : 11 ≤ k) : octet_ReadWide.f k s a w = some (readWide s a w) := by
  obtain ⟨k, rfl⟩ : ∃ m, k = m + 1 := ⟨k - 1, by omega⟩
  unfold octet_ReadWide.f readWide
  by_cases h1 : w < 1
  · rw [if_pos h1, if_pos (.inl h1)]; simp [octet_ReadWide.j0]
  by_cases h2 : 8 < w
  · rw [if_neg h1, if_pos h2, if_pos (.inr (.inl h2))]; simp [octet_ReadWide.j0]
  by_cases h3 : a < 0
  · rw [if_neg h1, if_neg h2, if_pos h3, if_pos (.inr (.inr (.inl h3)))]; simp [octet_ReadWide.j0]
  by_cases h4 : (s.size : Int) < a
  · rw [if_neg h1, if_neg h2, if_neg h3, if_pos (.inr (.inr (.inr h4)))]; simp [octet_ReadWide.j0, h4]
  rw [if_neg h1, if_neg h2, if_neg h3, if_neg (by omega)]
  simp only [octet_ReadWide.j0]
  rw [if_neg (by simp; omega), IntWalk.wrap64_in ((s.size : Int) - a) (by omega)]
  by_cases h5 : (s.size : Int) - a < w
  · rw [if_pos h5, if_pos h5]
  · rw [if_neg h5, if_neg h5]
    obtain ⟨w, rfl⟩ := Int.eq_ofNat_of_zero_le (show 0 ≤ w by omega)
    obtain ⟨p, rfl⟩ := Int.eq_ofNat_of_zero_le (show 0 ≤ a by omega)
    have := oct_rwide_l0 s hs p w (by omega) (by omega) w 0 (by omega) k (by omega)
    simpa [rwide] using this
theorem ref_rwide (s : ByteArray) (hs : s.size ≤ 1152921504606846976) (a w : Int) (k : Nat) (hk : 11 ≤ k) : stowageref01_ReadWide.f k s a w = some (readWide s a w) := by
  obtain ⟨k, rfl⟩ : ∃ m, k = m + 1 := ⟨k - 1, by omega⟩
  unfold stowageref01_ReadWide.f readWide
  by_cases h1 : w < 1
  · rw [if_pos h1, if_pos (.inl h1)]; simp [stowageref01_ReadWide.j0]
  by_cases h2 : 8 < w
  · rw [if_neg h1, if_pos h2, if_pos (.inr (.inl h2))]; simp [stowageref01_ReadWide.j0]
  by_cases h3 : a < 0
  · rw [if_neg h1, if_neg h2, if_pos h3, if_pos (.inr (.inr (.inl h3)))]; simp [stowageref01_ReadWide.j0]
  by_cases h4 : (s.size : Int) < a
  · rw [if_neg h1, if_neg h2, if_neg h3, if_pos (.inr (.inr (.inr h4)))]; simp [stowageref01_ReadWide.j0, h4]
  rw [if_neg h1, if_neg h2, if_neg h3, if_neg (by omega)]
  simp only [stowageref01_ReadWide.j0]
  rw [if_neg (by simp; omega), IntWalk.wrap64_in ((s.size : Int) - a) (by omega)]
  by_cases h5 : (s.size : Int) - a < w
  · rw [if_pos h5, if_pos h5]
  · rw [if_neg h5, if_neg (by omega)]
    obtain ⟨w, rfl⟩ := Int.eq_ofNat_of_zero_le (show 0 ≤ w by omega)
    obtain ⟨p, rfl⟩ := Int.eq_ofNat_of_zero_le (show 0 ≤ a by omega)
    have := ref_rwide_l0 s hs p w (by omega) (by omega) w 0 (by omega) k (by omega)
    simpa [rwide] using this

end Go.Proofs.Ytmeggejeiggicaa.Pure
