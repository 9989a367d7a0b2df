/- What the functions of package frame and of its reference answer, told by plain functions on bytes: sums, wide numbers, frames; for every input up to 2^60 bytes. -/
import Derived.Test.YtdedhifmpmbojaaQx4
import Derived.Test.YtdedhifmpmbojaaQx5
namespace Go.Proofs.Ytdedhifmpmbojaa.Pure
open Go.RowKit Go.Proofs.Ytdedhifmpmbojaa.Q Go.Proofs.YtdedhifmpmbojaaW.PrintWords Go.Proofs.YtdedhifmpmbojaaW.PrintLast Go.Proofs.YtdedhifmpmbojaaW.PrintMore
set_option linter.unusedVariables false
theorem wraps_u64 (j : Nat) (hj : j ≤ 64) (n : Int) (h₀ : 0 ≤ n) (h₁ : n < 2 ^ j) : IntKind.u64.wrap n = n := by
  apply IntWalk.u64_in
  have : (2:Int) ^ j ≤ 2 ^ 64 := by exact_mod_cast Nat.pow_le_pow_right (by decide) hj
  omega
/-- the bytes of a wide number, the highest first -/
def wideL : Nat → Nat → List Int
  | 0, _ => []
  | w + 1, n => wideL w (n / 256) ++ [((n % 256 : Nat) : Int)]
theorem wideL_len : ∀ w n, (wideL w n).length = w := by
  intro w
  induction w with
  | zero => intro n; rfl
  | succ w ih => intro n; simp [wideL, ih]
theorem wideL_cons : ∀ w n, wideL (w + 1) n = ((n / 256 ^ w % 256 : Nat) : Int) :: wideL w n := by
  intro w
  induction w with
  | zero => intro n; simp [wideL]
  | succ w ih =>
    intro n
    rw [wideL, ih (n / 256), wideL, Nat.div_div_eq_div_mul, Nat.pow_succ', List.cons_append]
theorem set_mid (m : Nat) (v : Int) (l : List Int) : (List.replicate (m + 1) (0 : Int) ++ l).set m v = List.replicate m 0 ++ v :: l := by
  rw [List.replicate_succ']
  have h : (List.replicate m (0:Int)).length = m := List.length_replicate
  rw [List.append_assoc, List.set_append_right _ _ (by omega), h, Nat.sub_self]
  rfl
theorem pow256 (i : Nat) : 256 ^ i = 2 ^ (8 * i) := by rw [show (256:Nat) = 2 ^ 8 from rfl, ← Nat.pow_mul]
theorem oct_wide_l0 (n : Nat) (hn : n < 2 ^ 64) (w : Nat) (hw : w ≤ 8) : ∀ d i : Nat, d + i = w → ∀ k, d < k →
    octet_Wide.l0 k n w (List.replicate (w - i) 0 ++ wideL i n) w i = some (strOfNums (wideL w n), 0) := by
  intro d
  induction d with
  | zero =>
    intro i hi k hk
    obtain ⟨k, rfl⟩ : ∃ m, k = m + 1 := ⟨k - 1, by omega⟩
    simp only [octet_Wide.l0]
    obtain rfl : i = w := by omega
    rw [if_neg (by omega)]; simp
  | succ d ih =>
    intro i hi k hk
    obtain ⟨k, rfl⟩ : ∃ m, k = m + 1 := ⟨k - 1, by omega⟩
    simp only [octet_Wide.l0]
    have e1 : wrap64 (8 * (i : Int)) = 8 * i := IntWalk.wrap64_in _ (by omega)
    have e2 : wrap64 ((w : Int) - 1) = w - 1 := IntWalk.wrap64_in _ (by omega)
    have e3 : wrap64 ((w : Int) - 1 - i) = ((w - 1 - i : Nat) : Int) := by rw [IntWalk.wrap64_in _ (by omega)]; omega
    have e4 : wrap64 ((i : Int) + 1) = ((i + 1 : Nat) : Int) := by rw [IntWalk.wrap64_in _ (by omega)]; omega
    rw [e1, e2, e3, e4, if_pos (by omega), if_pos (by omega), if_pos (by omega), if_pos (by simp [wideL_len]; omega)]
    have e5 : shr .u64 (n : Int) (8 * (i : Int)) % 256 = ((n / 256 ^ i % 256 : Nat) : Int) := by
      unfold shr
      rw [show min (8 * (i : Int)).toNat IntKind.u64.bits = 8 * i from by simp [IntKind.bits]; omega, pow256]
      simp
    rw [e5, Int.toNat_natCast, show w - i = (w - 1 - i) + 1 from by omega, set_mid, ← wideL_cons, show w - 1 - i = w - (i + 1) from by omega]
    exact ih (i + 1) (by omega) k (by omega)
theorem ref_wide_l0 (n : Nat) (hn : n < 2 ^ 64) (w : Nat) (hw : w ≤ 8) : ∀ d i : Nat, d + i = w → ∀ k, d < k →
    stowageref01_Wide.l0 k ((n / 256 ^ i : Nat) : Int) (List.replicate (w - i) 0 ++ wideL i n) ((w : Int) - 1 - i) = if n / 256 ^ w = 0 then some (strOfNums (wideL w n), 0) else some ((⟨#[]⟩ : ByteArray), 1) := by
  intro d
  induction d with
  | zero =>
    intro i hi k hk
    obtain ⟨k, rfl⟩ : ∃ m, k = m + 1 := ⟨k - 1, by omega⟩
    simp only [stowageref01_Wide.l0]
    obtain rfl : i = w := by omega
    rw [if_neg (by omega)]
    by_cases h : n / 256 ^ i = 0
    · rw [if_pos (by omega), if_pos h]; simp
    · rw [if_neg (by omega), if_neg h]
  | succ d ih =>
    intro i hi k hk
    obtain ⟨k, rfl⟩ : ∃ m, k = m + 1 := ⟨k - 1, by omega⟩
    simp only [stowageref01_Wide.l0]
    have hlt : n / 256 ^ i < 2 ^ 64 := Nat.lt_of_le_of_lt (Nat.div_le_self _ _) hn
    have e1 : IntKind.u64.wrap (Int.tdiv ((n / 256 ^ i : Nat) : Int) 256) = ((n / 256 ^ (i + 1) : Nat) : Int) := by
      rw [Nat.pow_succ, ← Nat.div_div_eq_div_mul]
      generalize n / 256 ^ i = q at *
      rw [Int.tdiv_eq_ediv_of_nonneg (by omega), IntWalk.u64_in _ (by omega)]; omega
    have e2 : Int.tmod ((n / 256 ^ i : Nat) : Int) 256 % 256 = ((n / 256 ^ i % 256 : Nat) : Int) := by
      generalize n / 256 ^ i = q at *
      rw [Int.tmod_eq_emod_of_nonneg (by omega)]; omega
    have e3 : wrap64 ((w : Int) - 1 - i - 1) = (w : Int) - 1 - ((i + 1 : Nat) : Int) := by rw [IntWalk.wrap64_in _ (by omega)]; omega
    rw [e1, e2, e3, if_pos (by omega), if_pos (by omega), if_pos (by simp [wideL_len]; omega)]
    rw [show ((w : Int) - 1 - i).toNat = w - 1 - i from by omega, show w - i = (w - 1 - i) + 1 from by omega, set_mid, ← wideL_cons, show w - 1 - i = w - (i + 1) from by omega]
    exact ih (i + 1) (by omega) k (by omega)
def wideS (n w : Nat) : ByteArray := strOfNums (wideL w n)
theorem wideS_size (n w : Nat) : (wideS n w).size = w := by unfold wideS; rw [strOfNums_size, wideL_len]
/-- a number in so many bytes, or that it can't be -/
def wide (n : Nat) (w : Int) : ByteArray × Int := if w < 1 ∨ 8 < w ∨ n / 256 ^ w.toNat ≠ 0 then (⟨#[]⟩, 1) else (wideS n w.toNat, 0)
theorem oct_wide (n : Nat) (hn : n < 2 ^ 64) (w : Int) (k : Nat) (hk : 11 ≤ k) : octet_Wide.f k n w = some (wide n w) := by
  obtain ⟨k, rfl⟩ : ∃ m, k = m + 1 := ⟨k - 1, by omega⟩
  unfold octet_Wide.f wide
  by_cases h1 : w < 1
  · rw [if_pos h1, if_pos (.inl h1)]; simp [octet_Wide.j0]
  · rw [if_neg h1]
    by_cases h2 : 8 < w
    · rw [if_pos h2, if_pos (.inr (.inl h2))]; simp [octet_Wide.j0]
    · rw [if_neg h2]
      obtain ⟨w, rfl⟩ := Int.eq_ofNat_of_zero_le (show 0 ≤ w by omega)
      have fin : ∀ b : Bool, (b = true ↔ n / 256 ^ w ≠ 0) → octet_Wide.j0 (k + 1) n w b = some (if (w : Int) < 1 ∨ 8 < (w : Int) ∨ n / 256 ^ (w : Int).toNat ≠ 0 then (⟨#[]⟩, 1) else (wideS n (w : Int).toNat, 0)) := by
        intro b hb
        simp only [octet_Wide.j0]
        rw [Int.toNat_natCast]
        by_cases h3 : n / 256 ^ w = 0
        · have hb' : ¬ b = true := fun e => hb.1 e h3
          rw [if_neg hb', if_pos (Int.natCast_nonneg _), if_pos (by omega), if_neg (fun h => h.elim h1 fun h => h.elim h2 fun h => h h3)]
          have := oct_wide_l0 n hn w (by omega) w 0 (by omega) k (by omega)
          simpa [wideL, wideS] using this
        · rw [if_pos (hb.2 h3), if_pos (.inr (.inr h3))]
      by_cases h3 : (w : Int) < 8
      · rw [if_pos h3]
        have e1 : wrap64 (8 * (w : Int)) = 8 * w := IntWalk.wrap64_in _ (by omega)
        rw [e1, if_pos (by omega)]
        apply fin
        unfold shr
        rw [show min (8 * (w : Int)).toNat IntKind.u64.bits = 8 * w from by simp [IntKind.bits]; omega, pow256]
        rw [bne_iff_ne]
        have : ((n : Int) / 2 ^ (8 * w)) = ((n / 2 ^ (8 * w) : Nat) : Int) := by simp
        rw [this]; omega
      · rw [if_neg h3]
        apply fin
        obtain rfl : w = 8 := by omega
        have : n / 256 ^ 8 = 0 := Nat.div_eq_of_lt (by omega)
        simp [this]
theorem ref_wide (n : Nat) (hn : n < 2 ^ 64) (w : Int) (k : Nat) (hk : 11 ≤ k) : stowageref01_Wide.f k n w = some (wide n w) := by
  obtain ⟨k, rfl⟩ : ∃ m, k = m + 1 := ⟨k - 1, by omega⟩
  unfold stowageref01_Wide.f wide
  by_cases h1 : w < 1
  · rw [if_pos h1, if_pos (.inl h1)]; simp [stowageref01_Wide.j0]
  · rw [if_neg h1]
    by_cases h2 : 8 < w
    · rw [if_pos (.inr (.inl h2))]; simp [stowageref01_Wide.j0, h2]
    · obtain ⟨w, rfl⟩ := Int.eq_ofNat_of_zero_le (show 0 ≤ w by omega)
      simp only [stowageref01_Wide.j0]
      rw [if_neg (by simp; omega), if_pos (Int.natCast_nonneg _), Int.toNat_natCast, if_pos (by omega)]
      have := ref_wide_l0 n hn w (by omega) w 0 (by omega) k (by omega)
      rw [IntWalk.wrap64_in _ (by omega)]
      simp only [Nat.pow_zero, Nat.div_one, Nat.sub_zero, wideL, List.append_nil] at this
      have e : (w : Int) - 1 - ((0 : Nat) : Int) = w - 1 := by omega
      rw [e] at this
      rw [this]
      by_cases h3 : n / 256 ^ w = 0
      · rw [if_pos h3, if_neg (by omega)]; rfl
      · rw [if_neg h3, if_pos (.inr (.inr h3))]
/-- a wide number that stands in bytes -/
def rwide (s : ByteArray) (p : Nat) : Nat → Nat
  | 0 => 0
  | i + 1 => rwide s p i * 256 + (bt s ((p + i : Nat) : Int)).toNat
theorem rwide_lt (s : ByteArray) (p : Nat) : ∀ i, rwide s p i < 256 ^ i := by
  intro i
  induction i with
  | zero => simp [rwide]
  | succ i ih =>
    have := bt_range s ((p + i : Nat) : Int)
    simp only [rwide]
    rw [Nat.pow_succ]; omega
theorem oct_rwide_l0 (s : ByteArray) (hs : s.size ≤ 1152921504606846976) (p w : Nat) (hw : w ≤ 8) (hp : p + w ≤ s.size) : ∀ d i : Nat, d + i = w → ∀ k, d < k →
    octet_ReadWide.l0 k s p w (rwide s p i : Nat) w i = some (((rwide s p w : Nat) : Int), ((p + w : Nat) : Int), 0) := by
  intro d
  induction d with
  | zero =>
    intro i hi k hk
    obtain ⟨k, rfl⟩ : ∃ m, k = m + 1 := ⟨k - 1, by omega⟩
    simp only [octet_ReadWide.l0]
    obtain rfl : i = w := by omega
    rw [if_neg (by omega), IntWalk.wrap64_in _ (by omega)]; simp
  | succ d ih =>
    intro i hi k hk
    obtain ⟨k, rfl⟩ : ∃ m, k = m + 1 := ⟨k - 1, by omega⟩
    simp only [octet_ReadWide.l0]
    have e1 : wrap64 ((p : Int) + i) = ((p + i : Nat) : Int) := by rw [IntWalk.wrap64_in _ (by omega)]; omega
    have e4 : wrap64 ((i : Int) + 1) = ((i + 1 : Nat) : Int) := by rw [IntWalk.wrap64_in _ (by omega)]; omega
    rw [e1, e4, if_pos (by omega), if_pos (by omega), if_pos (by omega)]
    have hb := bt_range s ((p + i : Nat) : Int)
    have hr := rwide_lt s p i
    have h7 : 256 ^ i ≤ 256 ^ 7 := Nat.pow_le_pow_right (by decide) (by omega)
    have e5 : Go.bits .or .u64 (IntKind.u64.wrap (((rwide s p i : Nat) : Int) * 256)) (IntKind.u64.wrap (bt s ((p + i : Nat) : Int))) = ((rwide s p (i + 1) : Nat) : Int) := by
      rw [IntWalk.u64_in _ (by omega), IntWalk.u64_in _ (by omega)]
      rw [bits_join .u64 64 (by decide) (wraps_u64 64 (by decide)) 8 _ _ (by omega) (by omega) (by omega) (by omega) (by omega) (by omega)]
      simp only [rwide]; omega
    rw [e5]
    exact ih (i + 1) (by omega) k (by omega)
theorem ref_rwide_l0 (s : ByteArray) (hs : s.size ≤ 1152921504606846976) (p w : Nat) (hw : w ≤ 8) (hp : p + w ≤ s.size) : ∀ d i : Nat, d + i = w → ∀ k, d < k →
    stowageref01_ReadWide.l0 k s p w (rwide s p i : Nat) ((p + i : Nat) : Int) = some (((rwide s p w : Nat) : Int), ((p + w : Nat) : Int), 0) := by
  intro d
  have e0 : wrap64 ((p : Int) + w) = ((p + w : Nat) : Int) := by rw [IntWalk.wrap64_in _ (by omega)]; omega
  induction d with
  | zero =>
    intro i hi k hk
    obtain ⟨k, rfl⟩ : ∃ m, k = m + 1 := ⟨k - 1, by omega⟩
    simp only [stowageref01_ReadWide.l0]
    obtain rfl : i = w := by omega
    rw [e0, if_neg (by omega)]
  | succ d ih =>
    intro i hi k hk
    obtain ⟨k, rfl⟩ : ∃ m, k = m + 1 := ⟨k - 1, by omega⟩
    simp only [stowageref01_ReadWide.l0]
    have e4 : wrap64 (((p + i : Nat) : Int) + 1) = ((p + (i + 1) : Nat) : Int) := by rw [IntWalk.wrap64_in _ (by omega)]; omega
    rw [e0, e4, if_pos (by omega), if_pos (by omega), if_pos (by omega)]
    have hb := bt_range s ((p + i : Nat) : Int)
    have hr := rwide_lt s p i
    have h7 : 256 ^ i ≤ 256 ^ 7 := Nat.pow_le_pow_right (by decide) (by omega)
    have e5 : IntKind.u64.wrap (IntKind.u64.wrap (((rwide s p i : Nat) : Int) * 256) + IntKind.u64.wrap (bt s ((p + i : Nat) : Int))) = ((rwide s p (i + 1) : Nat) : Int) := by
      rw [IntWalk.u64_in (_ * 256) (by omega), IntWalk.u64_in (bt _ _) (by omega), IntWalk.u64_in _ (by omega)]
      simp only [rwide]; omega
    rw [e5]
    exact ih (i + 1) (by omega) k (by omega)
def readWide (s : ByteArray) (a w : Int) : Int × Int × Int :=
  if w < 1 ∨ 8 < w ∨ a < 0 ∨ (s.size : Int) < a then (0, 0, 1) else if (s.size : Int) - a < w then (0, 0, 5) else (((rwide s a.toNat w.toNat : Nat) : Int), a + w, 0)
theorem oct_rwide (s : ByteArray) (hs : s.size ≤ 1152921504606846976) (a w : Int) (k : Nat) (hk : 11 ≤ k) : octet_ReadWide.f k s a w = some (readWide s a w) := by
  obtain ⟨k, rfl⟩ : ∃ m, k = m + 1 := ⟨k - 1, by omega⟩
  unfold octet_ReadWide.f readWide
  by_cases h1 : w < 1
  · rw [if_pos h1, if_pos (.inl h1)]; simp [octet_ReadWide.j0]
  by_cases h2 : 8 < w
  · rw [if_neg h1, if_pos h2, if_pos (.inr (.inl h2))]; simp [octet_ReadWide.j0]
  by_cases h3 : a < 0
  · rw [if_neg h1, if_neg h2, if_pos h3, if_pos (.inr (.inr (.inl h3)))]; simp [octet_ReadWide.j0]
  by_cases h4 : (s.size : Int) < a
  · rw [if_neg h1, if_neg h2, if_neg h3, if_pos (.inr (.inr (.inr h4)))]; simp [octet_ReadWide.j0, h4]
  rw [if_neg h1, if_neg h2, if_neg h3, if_neg (by omega)]
  simp only [octet_ReadWide.j0]
  rw [if_neg (by simp; omega), IntWalk.wrap64_in ((s.size : Int) - a) (by omega)]
  by_cases h5 : (s.size : Int) - a < w
  · rw [if_pos h5, if_pos h5]
  · rw [if_neg h5, if_neg h5]
    obtain ⟨w, rfl⟩ := Int.eq_ofNat_of_zero_le (show 0 ≤ w by omega)
    obtain ⟨p, rfl⟩ := Int.eq_ofNat_of_zero_le (show 0 ≤ a by omega)
    have := oct_rwide_l0 s hs p w (by omega) (by omega) w 0 (by omega) k (by omega)
    simpa [rwide] using this
theorem ref_rwide (s : ByteArray) (hs : s.size ≤ 1152921504606846976) (a w : Int) (k : Nat) (hk : 11 ≤ k) : stowageref01_ReadWide.f k s a w = some (readWide s a w) := by
  obtain ⟨k, rfl⟩ : ∃ m, k = m + 1 := ⟨k - 1, by omega⟩
  unfold stowageref01_ReadWide.f readWide
  by_cases h1 : w < 1
  · rw [if_pos h1, if_pos (.inl h1)]; simp [stowageref01_ReadWide.j0]
  by_cases h2 : 8 < w
  · rw [if_neg h1, if_pos h2, if_pos (.inr (.inl h2))]; simp [stowageref01_ReadWide.j0]
  by_cases h3 : a < 0
  · rw [if_neg h1, if_neg h2, if_pos h3, if_pos (.inr (.inr (.inl h3)))]; simp [stowageref01_ReadWide.j0]
  by_cases h4 : (s.size : Int) < a
  · rw [if_neg h1, if_neg h2, if_neg h3, if_pos (.inr (.inr (.inr h4)))]; simp [stowageref01_ReadWide.j0, h4]
  rw [if_neg h1, if_neg h2, if_neg h3, if_neg (by omega)]
  simp only [stowageref01_ReadWide.j0]
  rw [if_neg (by simp; omega), IntWalk.wrap64_in ((s.size : Int) - a) (by omega)]
  by_cases h5 : (s.size : Int) - a < w
  · rw [if_pos h5, if_pos h5]
  · rw [if_neg h5, if_neg (by omega)]
    obtain ⟨w, rfl⟩ := Int.eq_ofNat_of_zero_le (show 0 ≤ w by omega)
    obtain ⟨p, rfl⟩ := Int.eq_ofNat_of_zero_le (show 0 ≤ a by omega)
    have := ref_rwide_l0 s hs p w (by omega) (by omega) w 0 (by omega) k (by omega)
    simpa [rwide] using this
/-- one bit of a sum -/
def st1 (x : Nat) : Nat := (x / 2) ^^^ (if x % 2 = 1 then 3988292384 else 0)
def stN : Nat → Nat → Nat
  | 0, x => x
  | n + 1, x => stN n (st1 x)
def nb (s : ByteArray) : List Nat := s.data.toList.map UInt8.toNat
/-- bytes taken into a sum -/
def crc (x : Nat) (l : List Nat) : Nat := l.foldl (fun x b => stN 8 (x ^^^ b)) x
theorem crc_app (x : Nat) (a b : List Nat) : crc x (a ++ b) = crc (crc x a) b := by simp [crc]
theorem st1_lt {x : Nat} (h : x < 2 ^ 32) : st1 x < 2 ^ 32 := by
  unfold st1
  exact Nat.xor_lt_two_pow (by omega) (by split <;> decide)
theorem stN_lt : ∀ (n : Nat) {x : Nat}, x < 2 ^ 32 → stN n x < 2 ^ 32 := by
  intro n
  induction n with
  | zero => intro x h; exact h
  | succ n ih => intro x h; exact ih (st1_lt h)
theorem nb_lt (s : ByteArray) : ∀ b ∈ nb s, b < 256 := by
  intro b hb
  simp only [nb, List.mem_map] at hb
  obtain ⟨c, _, rfl⟩ := hb
  exact c.toNat_lt
theorem nb_len (s : ByteArray) : (nb s).length = s.size := by simp [nb]
theorem nb_app (a b : ByteArray) : nb (a ++ b) = nb a ++ nb b := by simp [nb, ByteArray.data_append]
theorem crc_lt : ∀ (l : List Nat), (∀ b ∈ l, b < 256) → ∀ {x : Nat}, x < 2 ^ 32 → crc x l < 2 ^ 32 := by
  intro l
  induction l with
  | nil => intro _ x h; exact h
  | cons b l ih =>
    intro hl x h
    have hb : b < 256 := hl b (by simp)
    exact ih (fun c hc => hl c (by simp [hc])) (stN_lt 8 (Nat.xor_lt_two_pow h (by omega)))
theorem nb_bt (s : ByteArray) (i : Nat) (h : i < s.size) : (nb s).drop i = (bt s i).toNat :: (nb s).drop (i + 1) := by
  have h' : i < (nb s).length := by rw [nb_len]; exact h
  rw [List.drop_eq_getElem_cons h']
  congr 1
  unfold bt
  rw [dif_pos (by simpa using h)]
  simp only [nb, List.getElem_map, Int.toNat_natCast, Array.getElem_toList]
  rfl
theorem wraps_u32 (n : Int) (h₀ : 0 ≤ n) (h₁ : n < 2 ^ 32) : IntKind.u32.wrap n = n := by rw [IntKind.wrap_u32]; omega
theorem bits_xor_nat (k : IntKind) (j : Nat) (hj : j ≤ k.bits) (hk : ∀ n : Int, 0 ≤ n → n < 2 ^ j → k.wrap n = n) (a b : Nat) (ha : a < 2 ^ j) (hb : b < 2 ^ j) :
    Go.bits .xor k a b = ((a ^^^ b : Nat) : Int) := by
  have hp : 2 ^ j ≤ 2 ^ k.bits := Nat.pow_le_pow_right (by decide) hj
  have ha' : a % 2 ^ k.bits = a := Nat.mod_eq_of_lt (Nat.lt_of_lt_of_le ha hp)
  have hb' : b % 2 ^ k.bits = b := Nat.mod_eq_of_lt (Nat.lt_of_lt_of_le hb hp)
  simp only [bits, BitVec.ofInt_natCast, BitVec.toNat_xor, BitVec.toNat_ofNat, ha', hb']
  exact hk _ (Int.natCast_nonneg _) (by exact_mod_cast Nat.xor_lt_two_pow ha hb)
theorem xor_u32 (a b : Nat) (ha : a < 2 ^ 32) (hb : b < 2 ^ 32) : Go.bits .xor .u32 a b = ((a ^^^ b : Nat) : Int) :=
  bits_xor_nat .u32 32 (by decide) wraps_u32 a b ha hb
theorem not_u32 (a : Nat) (ha : a < 2 ^ 32) : Go.bits .xor .u32 4294967295 a = ((4294967295 - a : Nat) : Int) := by
  have h := xor_u32 4294967295 a (by decide) ha
  have e : (4294967295 : Nat) ^^^ a = 4294967295 - a := by
    have hv : a = (BitVec.ofNat 32 a).toNat := by simp; omega
    have h3 : (~~~ (BitVec.ofNat 32 a)).toNat = 4294967295 - a := by rw [BitVec.toNat_not, ← hv]
    have h4 : (BitVec.allOnes 32 ^^^ BitVec.ofNat 32 a).toNat = 4294967295 ^^^ a := by rw [BitVec.toNat_xor, ← hv]; rfl
    rw [← h4, ← h3, BitVec.allOnes_xor]
  rw [← e]; exact h
theorem oct_step (x : Nat) (hx : x < 2 ^ 32) : Go.bits .xor .u32 ((x : Int) / 2) (Go.bits .and .u32 3988292384 ((-(Go.bits .and .u32 x 1)) % 4294967296)) = ((st1 x : Nat) : Int) := by
  have h1 : Go.bits .and .u32 (x : Int) 1 = ((x % 2 : Nat) : Int) := by
    have := bits_mask .u32 32 (by decide) (fun n h0 h1 => wraps_u32 n h0 h1) 1 (by decide) (x : Int) (by omega) (by omega)
    rw [show ((2 : Int) ^ 1 - 1) = 1 from rfl] at this
    rw [this]; omega
  rw [h1]
  have h2 : Go.bits .and .u32 3988292384 ((-((x % 2 : Nat) : Int)) % 4294967296) = (((if x % 2 = 1 then 3988292384 else 0 : Nat) : Nat) : Int) := by
    by_cases h : x % 2 = 1
    · rw [if_pos h, h]; decide +kernel
    · rw [if_neg h, show x % 2 = 0 by omega]; decide +kernel
  rw [h2, show (x : Int) / 2 = ((x / 2 : Nat) : Int) by omega, xor_u32 _ _ (by omega) (by split <;> decide)]
  rfl
theorem byte_in (x : Nat) (hx : x < 2 ^ 32) (s : ByteArray) (i : Int) : Go.bits .xor .u32 x ((bt s i) % 4294967296) = ((x ^^^ (bt s i).toNat : Nat) : Int) := by
  have hb := bt_range s i
  rw [show (bt s i) % 4294967296 = (((bt s i).toNat : Nat) : Int) by omega, xor_u32 _ _ hx (by omega)]
theorem oct_l1 (s : ByteArray) (n i : Int) : ∀ d : Nat, d ≤ 8 → ∀ (x k : Nat), x < 2 ^ 32 → d < k → frame_more.l1 k x s n i ((8 - d : Nat) : Int) = frame_more.l0 (k - d - 1) (stN d x : Nat) s n (wrap64 (i + 1)) := by
  intro d
  induction d with
  | zero =>
    intro _ x k _ hk
    obtain ⟨k, rfl⟩ : ∃ m, k = m + 1 := ⟨k - 1, by omega⟩
    simp only [frame_more.l1]
    rw [if_neg (by omega)]; rfl
  | succ d ih =>
    intro hd x k hx hk
    obtain ⟨k, rfl⟩ : ∃ m, k = m + 1 := ⟨k - 1, by omega⟩
    simp only [frame_more.l1]
    rw [if_pos (by omega), oct_step x hx, show wrap64 (((8 - (d + 1) : Nat) : Int) + 1) = ((8 - d : Nat) : Int) by rw [IntWalk.wrap64_in _ (by omega)]; omega]
    rw [ih (by omega) _ k (st1_lt hx) (by omega)]
    rw [show k + 1 - (d + 1) - 1 = k - d - 1 by omega]
    rfl
theorem oct_more_l0 (s : ByteArray) (hs : s.size ≤ 1152921504606846976) : ∀ d i : Nat, d + i = s.size → ∀ (x k : Nat), x < 2 ^ 32 → 10 * d < k → frame_more.l0 k x s s.size i = some ((crc x ((nb s).drop i) : Nat) : Int) := by
  intro d
  induction d with
  | zero =>
    intro i hi x k hx hk
    obtain ⟨k, rfl⟩ : ∃ m, k = m + 1 := ⟨k - 1, by omega⟩
    simp only [frame_more.l0]
    rw [if_neg (by omega), List.drop_eq_nil_of_le (by rw [nb_len]; omega)]; rfl
  | succ d ih =>
    intro i hi x k hx hk
    obtain ⟨k, rfl⟩ : ∃ m, k = m + 1 := ⟨k - 1, by omega⟩
    have hb := bt_range s i
    simp only [frame_more.l0]
    rw [if_pos (by omega), if_pos (by omega), if_pos (by omega), byte_in x hx]
    rw [show (0 : Int) = ((8 - 8 : Nat) : Int) from rfl, oct_l1 s _ _ 8 (by omega) _ k (Nat.xor_lt_two_pow hx (by omega)) (by omega)]
    rw [show wrap64 ((i : Int) + 1) = ((i + 1 : Nat) : Int) by rw [IntWalk.wrap64_in _ (by omega)]; omega]
    rw [ih (i + 1) (by omega) _ _ (stN_lt 8 (Nat.xor_lt_two_pow hx (by omega))) (by omega)]
    rw [nb_bt s i (by omega)]
    rfl
theorem oct_more (s : ByteArray) (hs : s.size ≤ 1152921504606846976) (x k : Nat) (hx : x < 2 ^ 32) (hk : 10 * s.size < k) : frame_more.f k x s = some ((crc x (nb s) : Nat) : Int) := by
  have := oct_more_l0 s hs s.size 0 (by omega) x k hx hk
  simpa [frame_more.f] using this
/-- bytes' sum -/
def sumOf (l : List Nat) : Nat := 4294967295 - crc 4294967295 l
theorem sumOf_lt (l : List Nat) : sumOf l < 2 ^ 32 := by unfold sumOf; omega
theorem oct_sum (s : ByteArray) (hs : s.size ≤ 1152921504606846976) (k : Nat) (hk : 10 * s.size < k) : frame_Sum.f k s = some ((sumOf (nb s) : Nat) : Int) := by
  unfold frame_Sum.f
  have := oct_more s hs 4294967295 k (by decide) hk
  rw [show (4294967295 : Int) = ((4294967295 : Nat) : Int) from rfl, this]
  simp only [Option.bind_some]
  have := not_u32 (crc 4294967295 (nb s)) (crc_lt _ (nb_lt s) (by decide))
  rw [show ((4294967295 : Nat) : Int) = (4294967295 : Int) from rfl, this]; rfl
theorem ref_step (x : Nat) (hx : x < 2 ^ 32) : (if (Int.tmod (x : Int) 2) = 1 then Go.bits .xor .u32 ((Int.tdiv (x : Int) 2) % 4294967296) 3988292384 else (Int.tdiv (x : Int) 2) % 4294967296) = ((st1 x : Nat) : Int) := by
  rw [Int.tmod_eq_emod_of_nonneg (by omega), Int.tdiv_eq_ediv_of_nonneg (by omega)]
  have e : (x : Int) / 2 % 4294967296 = ((x / 2 : Nat) : Int) := by omega
  unfold st1
  by_cases h : x % 2 = 1
  · rw [if_pos (by omega), if_pos h, e]
    exact xor_u32 _ 3988292384 (by omega) (by decide)
  · rw [if_neg (by omega), if_neg h, e]; simp
theorem ref_l1 (s : ByteArray) (i : Int) : ∀ d : Nat, d ≤ 8 → ∀ (x k : Nat), x < 2 ^ 32 → d < k → stowageref02_Sum.l1 k s x i ((8 - d : Nat) : Int) = stowageref02_Sum.l0 (k - d - 1) s (stN d x : Nat) (wrap64 (i + 1)) := by
  intro d
  induction d with
  | zero =>
    intro _ x k _ hk
    obtain ⟨k, rfl⟩ : ∃ m, k = m + 1 := ⟨k - 1, by omega⟩
    simp only [stowageref02_Sum.l1]
    rw [if_neg (by omega)]; rfl
  | succ d ih =>
    intro hd x k hx hk
    obtain ⟨k, rfl⟩ : ∃ m, k = m + 1 := ⟨k - 1, by omega⟩
    simp only [stowageref02_Sum.l1]
    have hst := ref_step x hx
    have hw : wrap64 (((8 - (d + 1) : Nat) : Int) + 1) = ((8 - d : Nat) : Int) := by rw [IntWalk.wrap64_in _ (by omega)]; omega
    have hih := ih (by omega) _ k (st1_lt hx) (by omega)
    rw [if_pos (by omega), hw, show k + 1 - (d + 1) - 1 = k - d - 1 by omega]
    by_cases h : (Int.tmod (x : Int) 2) = 1
    · rw [if_pos h] at hst ⊢; rw [hst, hih]; rfl
    · rw [if_neg h] at hst ⊢; rw [hst, hih]; rfl
theorem ref_sum_l0 (s : ByteArray) (hs : s.size ≤ 1152921504606846976) : ∀ d i : Nat, d + i = s.size → ∀ (x k : Nat), x < 2 ^ 32 → 10 * d < k → stowageref02_Sum.l0 k s x i = some ((4294967295 - crc x ((nb s).drop i) : Nat) : Int) := by
  intro d
  induction d with
  | zero =>
    intro i hi x k hx hk
    obtain ⟨k, rfl⟩ : ∃ m, k = m + 1 := ⟨k - 1, by omega⟩
    simp only [stowageref02_Sum.l0]
    rw [if_neg (by omega), List.drop_eq_nil_of_le (by rw [nb_len]; omega)]
    have : crc x [] = x := rfl
    rw [this, show (4294967295 - (x : Int)) % 4294967296 = ((4294967295 - x : Nat) : Int) by omega]
  | succ d ih =>
    intro i hi x k hx hk
    obtain ⟨k, rfl⟩ : ∃ m, k = m + 1 := ⟨k - 1, by omega⟩
    have hb := bt_range s i
    simp only [stowageref02_Sum.l0]
    rw [if_pos (by omega), if_pos (by omega), byte_in x hx]
    rw [show (0 : Int) = ((8 - 8 : Nat) : Int) from rfl, ref_l1 s _ 8 (by omega) _ k (Nat.xor_lt_two_pow hx (by omega)) (by omega)]
    rw [show wrap64 ((i : Int) + 1) = ((i + 1 : Nat) : Int) by rw [IntWalk.wrap64_in _ (by omega)]; omega]
    rw [ih (i + 1) (by omega) _ _ (stN_lt 8 (Nat.xor_lt_two_pow hx (by omega))) (by omega)]
    rw [nb_bt s i (by omega)]
    rfl
theorem ref_sum (s : ByteArray) (hs : s.size ≤ 1152921504606846976) (k : Nat) (hk : 10 * s.size < k) : stowageref02_Sum.f k s = some ((sumOf (nb s) : Nat) : Int) := by
  have := ref_sum_l0 s hs s.size 0 (by omega) 4294967295 k (by decide) hk
  simpa [stowageref02_Sum.f, sumOf] using this
/-- a body's frame -/
def frameS (s : ByteArray) : ByteArray := (wideS s.size 4 ++ wideS (sumOf (nb (wideS s.size 4 ++ s))) 4) ++ s
theorem frameS_size (s : ByteArray) : (frameS s).size = 8 + s.size := by simp [frameS, ByteArray.size_append, wideS_size]
theorem wide4 (n : Nat) (h : n < 2 ^ 32) : wide n 4 = (wideS n 4, 0) := by
  unfold wide
  rw [if_neg (fun hh => by rcases hh with hh | hh | hh <;> simp at hh; omega)]
  rfl
theorem oct_frame (s : ByteArray) (k : Nat) (hk : 2621540 < k) : frame_Frame.f k s = some (if 262144 < s.size then (⟨#[]⟩, 2) else (frameS s, 0)) := by
  unfold frame_Frame.f
  by_cases h : 262144 < s.size
  · rw [if_pos (by omega), if_pos h]
  · rw [if_neg (by omega), if_neg h]
    rw [IntWalk.u64_in _ (by omega), oct_wide s.size (by omega) 4 k (by omega), wide4 _ (by omega)]
    simp only [Option.bind_some]
    have hw := wideS_size s.size 4
    rw [show (4294967295 : Int) = ((4294967295 : Nat) : Int) from rfl, oct_more _ (by omega) _ k (by decide) (by omega)]
    simp only [Option.bind_some]
    have hl1 := crc_lt _ (nb_lt (wideS s.size 4)) (x := 4294967295) (by decide)
    rw [oct_more s (by omega) _ k hl1 (by omega)]
    simp only [Option.bind_some]
    rw [← crc_app, ← nb_app]
    have hl2 := crc_lt _ (nb_lt (wideS s.size 4 ++ s)) (x := 4294967295) (by decide)
    rw [show ((4294967295 : Nat) : Int) = (4294967295 : Int) from rfl, not_u32 _ hl2, IntWalk.u64_in _ (by omega), oct_wide _ (by omega) 4 k (by omega), wide4 _ (by omega)]
    simp only [Option.bind_some]
    rw [if_pos (by rw [wideS_size, wideS_size]; omega), if_pos (by rw [ByteArray.size_append, wideS_size, wideS_size]; omega)]
    rfl
theorem ref_frame (s : ByteArray) (k : Nat) (hk : 2621540 < k) : stowageref02_Frame.f k s = some (if 262144 < s.size then (⟨#[]⟩, 2) else (frameS s, 0)) := by
  unfold stowageref02_Frame.f
  by_cases h : 262144 < s.size
  · rw [if_pos (by omega), if_pos h]
  · rw [if_neg (by omega), if_neg h]
    rw [IntWalk.u64_in _ (by omega), ref_wide s.size (by omega) 4 k (by omega), wide4 _ (by omega)]
    simp only [Option.bind_some]
    have hw := wideS_size s.size 4
    rw [if_pos (by omega), ref_sum _ (by rw [ByteArray.size_append]; omega) k (by rw [ByteArray.size_append]; omega)]
    simp only [Option.bind_some]
    have hl := sumOf_lt (nb (wideS s.size 4 ++ s))
    rw [IntWalk.u64_in _ (by omega), ref_wide _ (by omega) 4 k (by omega), wide4 _ (by omega)]
    simp only [Option.bind_some]
    rw [if_pos (by rw [wideS_size, wideS_size]; omega), if_pos (by rw [ByteArray.size_append, wideS_size, wideS_size]; omega)]
    rfl
/-- the frame that stands at a place, or what is wrong there -/
def unframeN (s : ByteArray) (p : Nat) : ByteArray × Int × Int :=
  if s.size - p < 4 then (⟨#[]⟩, 0, 5)
  else if 262144 < rwide s p 4 then (⟨#[]⟩, 0, 2)
  else if s.size - (p + 4) < 4 + rwide s p 4 then (⟨#[]⟩, 0, 5)
  else if rwide s (p + 4) 4 = sumOf (nb (s.extract p (p + 4) ++ s.extract (p + 8) (p + 8 + rwide s p 4))) then
    (s.extract (p + 8) (p + 8 + rwide s p 4), ((p + 8 + rwide s p 4 : Nat) : Int), 0)
  else (⟨#[]⟩, 0, 10)
def unframe (s : ByteArray) (a : Int) : ByteArray × Int × Int := if a < 0 ∨ (s.size : Int) < a then (⟨#[]⟩, 0, 1) else unframeN s a.toNat
theorem readWide4 (s : ByteArray) (p : Nat) (hp : p ≤ s.size) : readWide s p 4 = if s.size - p < 4 then (0, 0, 5) else (((rwide s p 4 : Nat) : Int), ((p + 4 : Nat) : Int), 0) := by
  unfold readWide
  rw [if_neg (by omega)]
  by_cases h : s.size - p < 4
  · rw [if_pos (by omega), if_pos h]
  · rw [if_neg (by omega), if_neg h]; rfl
theorem cmp_sum (r c : Nat) (hr : r < 256 ^ 4) : ((r : Int) % 4294967296 = (c : Int)) ↔ r = c := by omega
theorem oct_unframe (s : ByteArray) (hs : s.size ≤ 1152921504606846976) (a : Int) (k : Nat) (hk : 10 * s.size + 100 < k) : frame_Unframe.f k s a = some (unframe s a) := by
  unfold frame_Unframe.f unframe
  rw [oct_rwide s hs a 4 k (by omega)]
  simp only [Option.bind_some]
  by_cases ha : a < 0 ∨ (s.size : Int) < a
  · have : readWide s a 4 = (0, 0, 1) := by unfold readWide; rw [if_pos (by omega)]
    rw [this, if_pos ha]; simp
  · rw [if_neg ha]
    obtain ⟨p, rfl⟩ := Int.eq_ofNat_of_zero_le (show 0 ≤ a by omega)
    rw [readWide4 s p (by omega), Int.toNat_natCast]
    unfold unframeN
    by_cases h1 : s.size - p < 4
    · rw [if_pos h1, if_pos h1]; simp
    · rw [if_neg h1, if_neg h1]
      simp only [if_true]
      have hr := rwide_lt s p 4
      by_cases h2 : 262144 < rwide s p 4
      · rw [if_pos (by omega), if_pos h2]
      · rw [if_neg (by omega), if_neg h2]
        have w1 : wrap64 ((s.size : Int) - ((p + 4 : Nat) : Int)) = (s.size : Int) - ((p + 4 : Nat) : Int) := IntWalk.wrap64_in _ (by omega)
        have w2 : wrap64 ((rwide s p 4 : Nat) : Int) = ((rwide s p 4 : Nat) : Int) := IntWalk.wrap64_in _ (by omega)
        rw [w1, w2, IntWalk.wrap64_in (4 + _) (by omega)]
        by_cases h3 : s.size - (p + 4) < 4 + rwide s p 4
        · rw [if_pos (by omega), if_pos h3]
        · rw [if_neg (by omega), if_neg h3]
          have hh : octet_ReadWide.f k s ((p + 4 : Nat) : Int) 4 = some (((rwide s (p + 4) 4 : Nat) : Int), ((p + 4 + 4 : Nat) : Int), 0) := by
            rw [oct_rwide s hs _ 4 k (by omega), readWide4 s (p + 4) (by omega), if_neg (by omega)]
          rw [hh, Option.bind_some]
          have hr2 := rwide_lt s (p + 4) 4
          generalize rwide s (p + 4) 4 = sm at hr2 ⊢
          dsimp only
          have w3 : wrap64 (((p + 4 + 4 : Nat) : Int) + ((rwide s p 4 : Nat) : Int)) = ((p + 8 + rwide s p 4 : Nat) : Int) := by rw [IntWalk.wrap64_in _ (by omega)]; omega
          rw [w3, if_pos (by omega), if_pos (by omega), if_pos (by omega), if_pos (by omega), if_pos (by omega), if_pos (by omega)]
          simp only [Int.toNat_natCast]
          have hz1 : (s.extract p (p + 4)).size = 4 := by rw [ByteArray.size_extract]; omega
          have hz2 : (s.extract (p + 4 + 4) (p + 8 + rwide s p 4)).size = rwide s p 4 := by rw [ByteArray.size_extract]; omega
          rw [show (4294967295 : Int) = ((4294967295 : Nat) : Int) from rfl, oct_more _ (by omega) _ k (by decide) (by omega)]
          simp only [Option.bind_some]
          have hl1 := crc_lt _ (nb_lt (s.extract p (p + 4))) (x := 4294967295) (by decide)
          rw [oct_more _ (by omega) _ k hl1 (by omega)]
          simp only [Option.bind_some]
          rw [← crc_app, ← nb_app]
          have hl2 := crc_lt _ (nb_lt (s.extract p (p + 4) ++ s.extract (p + 4 + 4) (p + 8 + rwide s p 4))) (x := 4294967295) (by decide)
          rw [show ((4294967295 : Nat) : Int) = (4294967295 : Int) from rfl, not_u32 _ hl2]
          have e8 : p + 4 + 4 = p + 8 := by omega
          simp only [e8]
          have hc := cmp_sum sm (sumOf (nb (s.extract p (p + 4) ++ s.extract (p + 8) (p + 8 + rwide s p 4)))) hr2
          unfold sumOf at hc ⊢
          by_cases h4 : sm = 4294967295 - crc 4294967295 (nb (s.extract p (p + 4) ++ s.extract (p + 8) (p + 8 + rwide s p 4)))
          · rw [if_pos (hc.2 h4), if_pos h4]
          · rw [if_neg (fun h => h4 (hc.1 h)), if_neg h4]
theorem ref_unframe (s : ByteArray) (hs : s.size ≤ 1152921504606846976) (a : Int) (k : Nat) (hk : 10 * s.size + 100 < k) : stowageref02_Unframe.f k s a = some (unframe s a) := by
  obtain ⟨k, rfl⟩ : ∃ m, k = m + 1 := ⟨k - 1, by omega⟩
  unfold stowageref02_Unframe.f unframe
  rw [ref_rwide s hs a 4 (k + 1) (by omega)]
  simp only [Option.bind_some]
  by_cases ha : a < 0 ∨ (s.size : Int) < a
  · have : readWide s a 4 = (0, 0, 1) := by unfold readWide; rw [if_pos (by omega)]
    rw [this, if_pos ha]; simp
  · rw [if_neg ha]
    obtain ⟨p, rfl⟩ := Int.eq_ofNat_of_zero_le (show 0 ≤ a by omega)
    rw [readWide4 s p (by omega), Int.toNat_natCast]
    unfold unframeN
    by_cases h1 : s.size - p < 4
    · rw [if_pos h1, if_pos h1]; simp
    · rw [if_neg h1, if_neg h1]
      simp only [if_true]
      have hr := rwide_lt s p 4
      by_cases h2 : 262144 < rwide s p 4
      · rw [if_pos (by omega), if_pos h2]
      · rw [if_neg (by omega), if_neg h2]
        rw [ref_rwide s hs _ 4 (k + 1) (by omega), readWide4 s (p + 4) (by omega)]
        simp only [Option.bind_some]
        by_cases h0 : s.size - (p + 4) < 4
        · rw [if_pos h0, if_pos (show s.size - (p + 4) < 4 + rwide s p 4 by omega)]
          simp [stowageref02_Unframe.j0]
        · rw [if_neg h0]
          simp only [if_true, stowageref02_Unframe.j0]
          have w1 : wrap64 ((s.size : Int) - ((p + 4 + 4 : Nat) : Int)) = (s.size : Int) - ((p + 4 + 4 : Nat) : Int) := IntWalk.wrap64_in _ (by omega)
          have w2 : wrap64 ((rwide s p 4 : Nat) : Int) = ((rwide s p 4 : Nat) : Int) := IntWalk.wrap64_in _ (by omega)
          rw [w1, w2]
          by_cases h3 : s.size - (p + 4) < 4 + rwide s p 4
          · rw [if_pos (decide_eq_true (by omega)), if_pos h3]
          · rw [if_neg (by simp only [decide_eq_true_eq]; omega), if_neg h3]
            have w3 : wrap64 (((p + 4 + 4 : Nat) : Int) + ((rwide s p 4 : Nat) : Int)) = ((p + 8 + rwide s p 4 : Nat) : Int) := by rw [IntWalk.wrap64_in _ (by omega)]; omega
            rw [w3, if_pos (by omega), if_pos (by omega), if_pos (by omega), if_pos (by omega), if_pos (by omega), if_pos (by omega)]
            simp only [Int.toNat_natCast]
            have hz1 : (s.extract p (p + 4)).size = 4 := by rw [ByteArray.size_extract]; omega
            have hz2 : (s.extract (p + 4 + 4) (p + 8 + rwide s p 4)).size = rwide s p 4 := by rw [ByteArray.size_extract]; omega
            rw [if_pos (by omega), ref_sum _ (by rw [ByteArray.size_append]; omega) k (by rw [ByteArray.size_append]; omega)]
            simp only [Option.bind_some]
            have hl := sumOf_lt (nb (s.extract p (p + 4) ++ s.extract (p + 4 + 4) (p + 8 + rwide s p 4)))
            rw [IntWalk.u64_in _ (by omega)]
            have e8 : p + 4 + 4 = p + 8 := by omega
            simp only [e8]
            by_cases h4 : rwide s (p + 4) 4 = sumOf (nb (s.extract p (p + 4) ++ s.extract (p + 8) (p + 8 + rwide s p 4)))
            · rw [if_pos (by omega), if_pos h4]
            · rw [if_neg (by omega), if_neg h4]
theorem awake_true (k : Nat) (hk : 2621540 < k) : stowagelaw02_awake.f k = some true := by
  unfold stowagelaw02_awake.f
  have z1 : (⟨#[97, 98]⟩ : ByteArray).size = 2 := rfl
  have z2 : (⟨#[49, 50, 51, 52, 53, 54, 55, 56, 57]⟩ : ByteArray).size = 9 := rfl
  rw [oct_frame _ k (by omega)]
  simp only [Option.bind_some]
  rw [if_neg (by omega)]
  simp only
  have z3 := frameS_size (⟨#[97, 98]⟩ : ByteArray)
  rw [oct_unframe _ (by omega) _ k (by omega)]
  simp only [Option.bind_some]
  rw [oct_sum _ (by omega) k (by omega)]
  simp only [Option.bind_some]
  decide +kernel

end Go.Proofs.Ytdedhifmpmbojaa.Pure
