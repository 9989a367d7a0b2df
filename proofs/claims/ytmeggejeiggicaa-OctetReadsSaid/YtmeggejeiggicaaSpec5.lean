/- A reader of package octet and one of its reference answer alike, whatever is asked of them. -/
import Derived.Test.YtmeggejeiggicaaReadsR
namespace Go.Proofs.Ytmeggejeiggicaa.Pure
open Go.RowKit Go.Proofs.Ytmeggejeiggicaa.R Go.Proofs.YtmeggejeiggicaaW.PrintWords Go.Proofs.YtmeggejeiggicaaW.PrintLast Go.Proofs.YtmeggejeiggicaaW.PrintMore
set_option linter.unusedVariables false
/-- what ReadNumber answers, from the i-th byte on -/
def rnum (s : ByteArray) (p : Nat) : Nat → Nat → Nat → Int × Int × Int
  | 0, _, _ => (0, 0, 3)
  | d + 1, i, n =>
    if (p + i : Nat) ≥ s.size then (0, 0, 5)
    else if (i = 9 ∧ 1 < bt s (p + i : Nat)) ∨ (0 < i ∧ bt s (p + i : Nat) = 0) then (0, 0, 3)
    else if bt s (p + i : Nat) < 128 then (((n + (bt s (p + i : Nat)).toNat % 128 * 128 ^ i : Nat) : Int), ((p + i + 1 : Nat) : Int), 0)
    else rnum s p d (i + 1) (n + (bt s (p + i : Nat)).toNat % 128 * 128 ^ i)

theorem wraps_u64 (j : Nat) (hj : j ≤ 64) (n : Int) (h₀ : 0 ≤ n) (h₁ : n < 2 ^ j) : IntKind.u64.wrap n = n := by
  apply IntWalk.u64_in
  have : (2:Int) ^ j ≤ 2 ^ 64 := by exact_mod_cast Nat.pow_le_pow_right (by decide) hj
  omega
theorem and127 (b : Int) (h0 : 0 ≤ b) (h1 : b ≤ 255) : Go.bits .and .u8 b 127 = b % 128 :=
  bits_mask .u8 8 (by decide) wraps_u8 7 (by decide) b h0 (by omega)
theorem or_low (n m i : Nat) (hn : n < 2 ^ i) (hm : m % 2 ^ i = 0) (hm1 : m < 2 ^ 64) (hn1 : n < 2 ^ 64) : Go.bits .or .u64 (n : Int) (m : Int) = ((n + m : Nat) : Int) := by
  rw [(bits_nat .u64 64 (by decide) (wraps_u64 64 (by decide)) n m hn1 hm1).2, Nat.or_comm]
  have hq : m = 2 ^ i * (m / 2 ^ i) := by have := Nat.div_add_mod m (2 ^ i); omega
  rw [hq, ← Nat.two_pow_add_eq_or_of_lt hn (m / 2 ^ i), ← hq, Nat.add_comm]
theorem pow128 (i : Nat) : 128 ^ i = 2 ^ (7 * i) := by rw [show (128:Nat) = 2 ^ 7 from rfl, ← Nat.pow_mul]
theorem piece_lt (i : Nat) (hi : i ≤ 9) (c : Nat) (hc : c < 128) (h9 : i = 9 → c ≤ 1) : c * 128 ^ i < 2 ^ 64 := by
  by_cases h : i = 9
  · subst h; have := h9 rfl; omega
  · have h2 : 128 ^ i ≤ 128 ^ 8 := Nat.pow_le_pow_right (by decide) (by omega)
    have : c * 128 ^ i ≤ 127 * 128 ^ 8 := Nat.mul_le_mul (by omega) h2
    omega
theorem low_lt (i n : Nat) (hi : i ≤ 9) (hn : n < 128 ^ i) : n < 2 ^ 63 := by
  have h2 : 128 ^ i ≤ 128 ^ 9 := Nat.pow_le_pow_right (by decide) hi
  omega
/-- the step of a reading -/
theorem or_shl (i n : Nat) (hi : i ≤ 9) (hn : n < 128 ^ i) (b : Int) (h0 : 0 ≤ b) (h1 : b ≤ 255) (h9 : i = 9 → b ≤ 1) :
    Go.bits .or .u64 (n : Int) (shl .u64 (IntKind.u64.wrap (Go.bits .and .u8 b 127)) (wrap64 (7 * (i : Int)))) = ((n + b.toNat % 128 * 128 ^ i : Nat) : Int) := by
  obtain ⟨b, rfl⟩ := Int.eq_ofNat_of_zero_le h0
  rw [and127 _ h0 h1, IntWalk.u64_in _ (by omega), IntWalk.wrap64_in _ (by omega)]
  have hp := piece_lt i hi (b % 128) (by omega) (by omega)
  have e : shl .u64 ((b : Int) % 128) (7 * (i : Int)) = ((b % 128 * 128 ^ i : Nat) : Int) := by
    unfold shl
    rw [show min (7 * (i : Int)).toNat IntKind.u64.bits = 7 * i from by simp [IntKind.bits]; omega]
    have : ((b : Int) % 128) * 2 ^ (7 * i) = ((b % 128 * 128 ^ i : Nat) : Int) := by rw [pow128]; simp
    rw [this]
    exact wraps_u64 64 (by decide) _ (by omega) (by exact_mod_cast hp)
  rw [e, Int.toNat_natCast]
  have := low_lt i n hi hn
  exact or_low n _ (7 * i) (by rw [← pow128]; exact hn) (by rw [← pow128]; exact Nat.mul_mod_left _ _) hp (by omega)
def readNum (s : ByteArray) (at' : Int) : Int × Int × Int := if at' < 0 ∨ (s.size : Int) < at' then (0, 0, 1) else rnum s at'.toNat 10 0 0

theorem oct_l0 (s : ByteArray) (hs : s.size ≤ 140737488351232) (p : Nat) (hp : p ≤ s.size) : ∀ (d i n : Nat), d + i = 10 → i ≤ 9 → n < 128 ^ i → ∀ k, 2 * d ≤ k →
    octet_ReadNumber.l0 k s p n i = some (rnum s p d i n) := by
  intro d
  induction d with
  | zero => intro i n h1 h2; omega
  | succ d ih =>
    intro i n hd hi hn k hk
    obtain ⟨k, rfl⟩ : ∃ m, k = m + 2 := ⟨k - 2, by omega⟩
    have hw : wrap64 ((p : Int) + (i : Int)) = ((p + i : Nat) : Int) := by rw [IntWalk.wrap64_in _ (by omega)]; omega
    simp only [octet_ReadNumber.l0, hw, rnum]
    rw [if_pos (by omega)]
    by_cases h1 : (p + i) ≥ s.size
    · rw [if_pos (by omega), if_pos h1]
    · rw [if_neg (by omega), if_neg h1, if_pos (by omega), if_pos (by omega)]
      obtain ⟨hb0, hb1⟩ := bt_range s ((p + i : Nat) : Int)
      generalize bt s ((p + i : Nat) : Int) = b at *
      have key : ∀ c : Bool, (c = true ↔ ((i = 9 ∧ 1 < b) ∨ (0 < i ∧ b = 0))) → octet_ReadNumber.j2 (k + 1) s p n i b i c = some (if (i = 9 ∧ 1 < b) ∨ (0 < i ∧ b = 0) then (0, 0, 3) else if b < 128 then (((n + b.toNat % 128 * 128 ^ i : Nat) : Int), ((p + i + 1 : Nat) : Int), 0) else rnum s p d (i + 1) (n + b.toNat % 128 * 128 ^ i)) := by
        intro c hc
        simp only [octet_ReadNumber.j2]
        by_cases hC : (i = 9 ∧ 1 < b) ∨ (0 < i ∧ b = 0)
        · rw [if_pos (hc.2 hC), if_pos hC]
        · rw [if_neg (fun h => hC (hc.1 h)), if_neg hC]
          rw [if_pos (by rw [IntWalk.wrap64_in _ (by omega)]; omega)]
          rw [or_shl i n hi hn b hb0 hb1 (by omega)]
          by_cases h128 : b < 128
          · rw [if_pos h128, if_pos h128, hw, IntWalk.wrap64_in _ (by omega)]
            simp
          · rw [if_neg h128, if_neg h128]
            have hi' : i ≤ 8 := by omega
            have e1 : wrap64 ((i : Int) + 1) = ((i + 1 : Nat) : Int) := by rw [IntWalk.wrap64_in _ (by omega)]; omega
            rw [e1]
            refine ih (i + 1) _ (by omega) (by omega) ?_ k (by omega)
            have h2 : b.toNat % 128 * 128 ^ i ≤ 127 * 128 ^ i := Nat.mul_le_mul_right _ (by omega)
            rw [Nat.pow_succ]; omega
      by_cases h9 : i = 9
      · rw [if_pos (by omega)]
        by_cases hb : b > 1
        · rw [if_pos hb]; exact key true (by simp; omega)
        · rw [if_neg hb, if_pos (by omega)]; exact key _ (by rw [beq_iff_eq]; omega)
      · rw [if_neg (by omega)]
        by_cases h0 : i > 0
        · rw [if_pos (by omega)]; exact key _ (by rw [beq_iff_eq]; omega)
        · rw [if_neg (by omega)]; exact key _ (by simp; omega)

theorem oct_read (s : ByteArray) (hs : s.size ≤ 140737488351232) (a : Int) (k : Nat) (hk : 21 ≤ k) : octet_ReadNumber.f k s a = some (readNum s a) := by
  obtain ⟨k, rfl⟩ : ∃ m, k = m + 1 := ⟨k - 1, by omega⟩
  unfold octet_ReadNumber.f readNum
  by_cases h : a < 0
  · rw [if_pos h, if_pos (.inl h)]; simp [octet_ReadNumber.j0]
  · rw [if_neg h]
    by_cases h2 : (s.size : Int) < a
    · rw [if_pos (.inr h2)]; simp [octet_ReadNumber.j0, h2]
    · rw [if_neg (by omega)]
      simp only [octet_ReadNumber.j0]
      rw [if_neg (by simp; omega)]
      obtain ⟨p, rfl⟩ := Int.eq_ofNat_of_zero_le (show 0 ≤ a by omega)
      exact oct_l0 s hs p (by omega) 10 0 0 rfl (by omega) (by decide) k (by omega)

theorem ref_l0 (s : ByteArray) (hs : s.size ≤ 140737488351232) (p : Nat) (hp : p ≤ s.size) : ∀ (d i n : Nat), d + i = 10 → i ≤ 9 → n < 128 ^ i → ∀ k, 2 * d ≤ k →
    stowageref01_ReadNumber.l0 k s p n (128 ^ i : Nat) (p + i : Nat) = some (rnum s p d i n) := by
  intro d
  induction d with
  | zero => intro i n h1 h2; omega
  | succ d ih =>
    intro i n hd hi hn k hk
    obtain ⟨k, rfl⟩ : ∃ m, k = m + 2 := ⟨k - 2, by omega⟩
    simp only [stowageref01_ReadNumber.l0, rnum]
    by_cases h1 : (p + i) ≥ s.size
    · rw [if_pos (by omega), if_pos h1]
    · rw [if_neg (by omega), if_neg h1, if_pos (by omega), if_pos (by omega)]
      obtain ⟨hb0, hb1⟩ := bt_range s ((p + i : Nat) : Int)
      generalize bt s ((p + i : Nat) : Int) = b at *
      have hbw : IntKind.u64.wrap b = b := IntWalk.u64_in _ (by omega)
      have hw : wrap64 (((p + i : Nat) : Int) - p) = (i : Int) := by rw [IntWalk.wrap64_in _ (by omega)]; omega
      rw [hbw, hw]
      have key : ∀ c : Bool, (c = true ↔ ((i = 9 ∧ 1 < b) ∨ (0 < i ∧ b = 0))) → stowageref01_ReadNumber.j2 (k + 1) s p n (128 ^ i : Nat) (p + i : Nat) b c = some (if (i = 9 ∧ 1 < b) ∨ (0 < i ∧ b = 0) then (0, 0, 3) else if b < 128 then (((n + b.toNat % 128 * 128 ^ i : Nat) : Int), ((p + i + 1 : Nat) : Int), 0) else rnum s p d (i + 1) (n + b.toNat % 128 * 128 ^ i)) := by
        intro c hc
        simp only [stowageref01_ReadNumber.j2]
        by_cases hC : (i = 9 ∧ 1 < b) ∨ (0 < i ∧ b = 0)
        · rw [if_pos (hc.2 hC), if_pos hC]
        · rw [if_neg (fun h => hC (hc.1 h)), if_neg hC]
          obtain ⟨b, rfl⟩ := Int.eq_ofNat_of_zero_le hb0
          have hp := piece_lt i hi (b % 128) (by omega) (by omega)
          have e : IntKind.u64.wrap (Int.tmod (b : Int) 128 * ((128 ^ i : Nat) : Int)) = ((b % 128 * 128 ^ i : Nat) : Int) := by
            rw [Int.tmod_eq_emod_of_nonneg (by omega)]
            have : ((b : Int) % 128) * ((128 ^ i : Nat) : Int) = ((b % 128 * 128 ^ i : Nat) : Int) := by simp
            rw [this]
            exact wraps_u64 64 (by decide) _ (by omega) (by exact_mod_cast hp)
          have hlow := low_lt i n hi hn
          have e2 : IntKind.u64.wrap ((n : Int) + ((b % 128 * 128 ^ i : Nat) : Int)) = ((n + b % 128 * 128 ^ i : Nat) : Int) := by
            by_cases h9 : i = 9
            · subst h9
              rw [IntWalk.u64_in _ (by omega)]; omega
            · have hp8 : 128 ^ i ≤ 128 ^ 8 := Nat.pow_le_pow_right (by decide) (by omega)
              have : b % 128 * 128 ^ i ≤ 127 * 128 ^ 8 := Nat.mul_le_mul (by omega) hp8
              rw [IntWalk.u64_in _ (by omega)]; omega
          rw [e, e2, Int.toNat_natCast]
          have e3 : wrap64 (((p + i : Nat) : Int) + 1) = ((p + i + 1 : Nat) : Int) := by rw [IntWalk.wrap64_in _ (by omega)]; omega
          rw [e3]
          by_cases h128 : (b : Int) < 128
          · rw [if_pos h128, if_pos h128]
          · rw [if_neg h128, if_neg h128]
            have hi' : i ≤ 8 := by omega
            have hp8 : 128 ^ i ≤ 128 ^ 8 := Nat.pow_le_pow_right (by decide) (by omega)
            have e4 : IntKind.u64.wrap (((128 ^ i : Nat) : Int) * 128) = ((128 ^ (i + 1) : Nat) : Int) := by
              rw [IntWalk.u64_in _ (by omega), Nat.pow_succ]; omega
            rw [e4]
            refine ih (i + 1) _ (by omega) (by omega) ?_ k (by omega)
            have h2 : b % 128 * 128 ^ i ≤ 127 * 128 ^ i := Nat.mul_le_mul_right _ (by omega)
            rw [Nat.pow_succ]; omega
      by_cases h9 : i = 9
      · rw [if_pos (by omega)]
        by_cases hb : b > 1
        · rw [if_pos hb]; exact key true (by simp; omega)
        · rw [if_neg hb, if_pos (by omega)]; exact key _ (by rw [beq_iff_eq]; omega)
      · rw [if_neg (by omega)]
        by_cases h0 : i > 0
        · rw [if_pos (by omega)]; exact key _ (by rw [beq_iff_eq]; omega)
        · rw [if_neg (by omega)]; exact key _ (by simp; omega)

theorem ref_read (s : ByteArray) (hs : s.size ≤ 140737488351232) (a : Int) (k : Nat) (hk : 21 ≤ k) : stowageref01_ReadNumber.f k s a = some (readNum s a) := by
  obtain ⟨k, rfl⟩ : ∃ m, k = m + 1 := ⟨k - 1, by omega⟩
  unfold stowageref01_ReadNumber.f readNum
  by_cases h : a < 0
  · rw [if_pos h, if_pos (.inl h)]; simp [stowageref01_ReadNumber.j0]
  · rw [if_neg h]
    by_cases h2 : (s.size : Int) < a
    · rw [if_pos (.inr h2)]; simp [stowageref01_ReadNumber.j0, h2]
    · rw [if_neg (by omega)]
      simp only [stowageref01_ReadNumber.j0]
      rw [if_neg (by simp; omega)]
      obtain ⟨p, rfl⟩ := Int.eq_ofNat_of_zero_le (show 0 ≤ a by omega)
      exact ref_l0 s hs p (by omega) 10 0 0 rfl (by omega) (by decide) k (by omega)

/-- the bytes of a number -/
def encN : Nat → Nat → List Int
  | 0, _ => []
  | d + 1, n => if n < 128 then [(n : Int)] else ((n % 128 + 128 : Nat) : Int) :: encN d (n / 128)
def numS (n : Nat) : ByteArray := strOfNums (encN 10 n)
theorem encN_len : ∀ d n, (encN d n).length ≤ d := by
  intro d
  induction d with
  | zero => intro n; simp [encN]
  | succ d ih => intro n; simp only [encN]; split; simp; have := ih (n / 128); simp; omega
theorem or128 : ∀ m : Nat, m < 256 → m ||| 128 = m % 128 + 128 := by decide +kernel
theorem bits_or128 (x : Nat) : Go.bits .or .u8 (((x : Int)) % 256) 128 = ((x % 128 + 128 : Nat) : Int) := by
  have h := (bits_nat .u8 8 (by decide) wraps_u8 (x % 256) 128 (by omega) (by decide)).2
  have e : ((x : Int)) % 256 = ((x % 256 : Nat) : Int) := by omega
  rw [e, show (128 : Int) = ((128 : Nat) : Int) from rfl, h, or128 _ (by omega), show x % 256 % 128 = x % 128 by omega]
theorem oct_num_l0 : ∀ d x : Nat, x < 128 ^ d → 0 < d → ∀ (acc : List Int) (k : Nat), acc.length + d ≤ 100 → d ≤ k → octet_Number.l0 k x acc = some (strOfNums (acc ++ encN d x)) := by
  intro d
  induction d with
  | zero => intro x _ h; omega
  | succ d ih =>
    intro x hx _ acc k hacc hk
    obtain ⟨k, rfl⟩ : ∃ m, k = m + 1 := ⟨k - 1, by omega⟩
    simp only [octet_Number.l0, encN]
    by_cases h : x < 128
    · rw [if_neg (by omega), if_pos (by omega), if_pos h, show (x : Int) % 256 = x by omega]
    · rw [if_pos (by omega), if_pos (by omega), if_neg h, bits_or128]
      have hd : 0 < d := by
        rcases Nat.eq_zero_or_pos d with h0 | h0
        · subst h0; simp at hx; omega
        · exact h0
      rw [show (x : Int) / 128 = ((x / 128 : Nat) : Int) by omega]
      rw [ih (x / 128) (by rw [Nat.pow_succ] at hx; exact Nat.div_lt_of_lt_mul (by omega)) hd _ k (by simp; omega) (by omega)]
      simp
theorem oct_num (x : Nat) (hx : x < 2 ^ 64) (k : Nat) (hk : 10 ≤ k) : octet_Number.f k x = some (numS x) := by
  unfold octet_Number.f numS
  rw [oct_num_l0 10 x (by omega) (by omega) [] k (by simp) hk]; simp
theorem numS_app (xs ys : List Int) : strOfNums xs ++ strOfNums ys = strOfNums (xs ++ ys) := by
  apply ByteArray.ext
  simp [strOfNums]
theorem numS_size (n : Nat) : (numS n).size ≤ 10 := by unfold numS; rw [strOfNums_size]; exact encN_len 10 n

/-- what is known of a number that was read -/
theorem rnum_ok (s : ByteArray) (p : Nat) : ∀ (d i n : Nat), d + i = 10 → n < 128 ^ i → (rnum s p d i n).2.2 = 0 →
    0 ≤ (rnum s p d i n).1 ∧ (rnum s p d i n).1 < 2 ^ 64 ∧ (p + i : Nat) < (rnum s p d i n).2.1 ∧ (rnum s p d i n).2.1 ≤ s.size := by
  intro d
  induction d with
  | zero => intro i n _ _ h; simp [rnum] at h
  | succ d ih =>
    intro i n hd hn
    simp only [rnum]
    by_cases h1 : (p + i) ≥ s.size
    · rw [if_pos h1]; intro h; simp at h
    · rw [if_neg h1]
      obtain ⟨hb0, hb1⟩ := bt_range s ((p + i : Nat) : Int)
      generalize bt s ((p + i : Nat) : Int) = b at *
      by_cases hC : (i = 9 ∧ 1 < b) ∨ (0 < i ∧ b = 0)
      · rw [if_pos hC]; intro h; simp at h
      · rw [if_neg hC]
        have hi : i ≤ 9 := by omega
        have hp := piece_lt i hi (b.toNat % 128) (by omega) (by omega)
        by_cases h128 : b < 128
        · rw [if_pos h128]
          intro _
          refine ⟨Int.natCast_nonneg _, ?_, by show ((p + i : Nat) : Int) < ((p + i + 1 : Nat) : Int); omega, by show ((p + i + 1 : Nat) : Int) ≤ _; omega⟩
          show ((n + b.toNat % 128 * 128 ^ i : Nat) : Int) < 2 ^ 64
          by_cases h9 : i = 9
          · subst h9
            have : b.toNat % 128 * 128 ^ 9 ≤ 1 * 128 ^ 9 := Nat.mul_le_mul_right _ (by omega)
            omega
          · have hp8 : 128 ^ i ≤ 128 ^ 8 := Nat.pow_le_pow_right (by decide) (by omega)
            have : b.toNat % 128 * 128 ^ i ≤ 127 * 128 ^ 8 := Nat.mul_le_mul (by omega) hp8
            omega
        · rw [if_neg h128]
          intro h
          have h2 : b.toNat % 128 * 128 ^ i ≤ 127 * 128 ^ i := Nat.mul_le_mul_right _ (by omega)
          obtain ⟨g1, g2, g3, g4⟩ := ih (i + 1) _ (by omega) (by rw [Nat.pow_succ]; omega) h
          exact ⟨g1, g2, by omega, g4⟩
theorem readNum_ok {s : ByteArray} {a : Int} (h : (readNum s a).2.2 = 0) : 0 ≤ a ∧ a < (readNum s a).2.1 ∧ (readNum s a).2.1 ≤ s.size ∧ 0 ≤ (readNum s a).1 ∧ (readNum s a).1 < 2 ^ 64 := by
  unfold readNum at h ⊢
  by_cases hC : a < 0 ∨ (s.size : Int) < a
  · rw [if_pos hC] at h; simp at h
  · rw [if_neg hC] at h ⊢
    obtain ⟨p, rfl⟩ := Int.eq_ofNat_of_zero_le (show 0 ≤ a by omega)
    obtain ⟨g1, g2, g3, g4⟩ := rnum_ok s (p : Int).toNat 10 0 0 rfl (by decide) h
    exact ⟨by omega, by simpa using g3, g4, g1, g2⟩

def readText (s : ByteArray) (a : Int) : ByteArray × Int × Int :=
  let r := readNum s a
  if r.2.2 = 0 then (if r.1 > (s.size : Int) - r.2.1 then (⟨#[]⟩, 0, 5) else (s.extract r.2.1.toNat (r.2.1 + r.1).toNat, r.2.1 + r.1, 0)) else (⟨#[]⟩, 0, r.2.2)

theorem oct_readText (s : ByteArray) (hs : s.size ≤ 140737488351232) (a : Int) (k : Nat) (hk : 21 ≤ k) : octet_ReadText.f k s a = some (readText s a) := by
  unfold octet_ReadText.f
  rw [oct_read s hs a k hk]
  simp only [Option.bind_some]
  unfold readText
  have H := @readNum_ok s a
  generalize readNum s a = r at *
  obtain ⟨n, q, e⟩ := r
  simp only at *
  by_cases he : e = 0
  · rw [if_pos he, if_pos he]
    obtain ⟨h1, h2, h3, h4, h5⟩ := H he
    have w1 : IntKind.u64.wrap (wrap64 ((s.size : Int) - q)) = (s.size : Int) - q := by
      rw [IntWalk.wrap64_in _ (by omega), IntWalk.u64_in _ (by omega)]
    rw [w1]
    by_cases hn : n > (s.size : Int) - q
    · rw [if_pos hn, if_pos hn]
    · rw [if_neg hn, if_neg hn]
      have w2 : wrap64 n = n := IntWalk.wrap64_in _ (by omega)
      have w3 : wrap64 (q + n) = q + n := IntWalk.wrap64_in _ (by omega)
      rw [w2, w3, if_pos (by omega), if_pos (by omega), if_pos (by omega)]
  · rw [if_neg he, if_neg he]
theorem ref_readText (s : ByteArray) (hs : s.size ≤ 140737488351232) (a : Int) (k : Nat) (hk : 21 ≤ k) : stowageref01_ReadText.f k s a = some (readText s a) := by
  unfold stowageref01_ReadText.f
  rw [ref_read s hs a k hk]
  simp only [Option.bind_some]
  unfold readText
  have H := @readNum_ok s a
  generalize readNum s a = r at *
  obtain ⟨n, q, e⟩ := r
  simp only at *
  by_cases he : e = 0
  · rw [if_pos he, if_pos he]
    obtain ⟨h1, h2, h3, h4, h5⟩ := H he
    have w1 : IntKind.u64.wrap (s.size : Int) = (s.size : Int) := by rw [IntWalk.u64_in _ (by omega)]
    have w0 : wrap64 ((s.size : Int) - q) = (s.size : Int) - q := by rw [IntWalk.wrap64_in _ (by omega)]
    rw [w1, w0]
    by_cases hn : n > (s.size : Int) - q
    · rw [if_pos hn]
      by_cases hn2 : n > (s.size : Int)
      · rw [if_pos hn2]
      · rw [if_neg hn2, IntWalk.wrap64_in _ (by omega), if_pos hn]
    · rw [if_neg hn, if_neg (by omega)]
      have w2 : wrap64 n = n := IntWalk.wrap64_in _ (by omega)
      have w3 : wrap64 (q + n) = q + n := IntWalk.wrap64_in _ (by omega)
      rw [w2, w3, if_neg hn, if_pos (by omega), if_pos (by omega), if_pos (by omega)]
  · rw [if_neg he, if_neg he]
theorem awake_true (k : Nat) (hk : 21 ≤ k) : stowagelaw01_awake.f k = some true := by
  unfold stowagelaw01_awake.f
  rw [oct_read _ (by decide) _ k hk, oct_readText _ (by decide) _ k hk]
  simp only [Option.bind_some]
  rw [show (300 : Int) = ((300 : Nat) : Int) from rfl, oct_num 300 (by decide) k (by omega)]
  simp only [Option.bind_some]
  decide +kernel

def Two (o : Option (Int × ByteArray × Int × Int)) (r : Option (ByteArray × Int × Int × Int)) : Prop := ∃ n s a e, o = some (n, s, a, e) ∧ r = some (s, a, e, n) ∧ s.size ≤ 140737488351232
theorem two_number (s : ByteArray) (hs : s.size ≤ 140737488351232) (a e m : Int) (k : Nat) (hk : 30 ≤ k) : Two (octet_Reader_Number.f k s a e m) (stowageref01_Reader_Number.f k s a e m) := by
  obtain ⟨k, rfl⟩ : ∃ j, k = j + 1 := ⟨k - 1, by omega⟩
  unfold octet_Reader_Number.f stowageref01_Reader_Number.f octet_Reader_Err.f
  simp only [Option.bind_some]
  by_cases he : e = 0
  · rw [if_pos he, if_pos he, oct_read s hs a _ (by omega), ref_read s hs a _ (by omega)]
    simp only [Option.bind_some]
    generalize readNum s a = r
    obtain ⟨n, q, c⟩ := r
    simp only
    by_cases hc : c = 0
    · rw [if_pos hc, if_pos hc]
      by_cases hm : n > m
      · rw [if_pos hm]; exact ⟨0, s, a, 2, by simp [octet_Reader_Number.j0, hm], rfl, hs⟩
      · rw [if_neg hm]; exact ⟨n, s, q, e, by simp [octet_Reader_Number.j0, hm, hc], rfl, hs⟩
    · rw [if_neg hc, if_neg hc]; exact ⟨0, s, a, c, by simp [octet_Reader_Number.j0, hc], rfl, hs⟩
  · rw [if_neg he, if_neg he]; exact ⟨0, s, a, e, rfl, rfl, hs⟩
theorem two_int (s : ByteArray) (hs : s.size ≤ 140737488351232) (a e m : Int) (k : Nat) (hk : 30 ≤ k) : Two (octet_Reader_Int.f k s a e m) (stowageref01_Reader_Int.f k s a e m) := by
  unfold octet_Reader_Int.f stowageref01_Reader_Int.f
  by_cases hm : m < 0
  · rw [if_pos hm, if_neg (by omega)]
    unfold octet_Reader_Err.f
    simp only [Option.bind_some]
    by_cases he : e = 0
    · rw [if_pos he, if_pos he, oct_read s hs a _ (by omega), ref_read s hs a _ (by omega)]
      simp only [Option.bind_some]
      by_cases hc : (readNum s a).2.2 = 0
      · rw [if_pos hc, if_pos hc]; exact ⟨0, s, a, 2, rfl, rfl, hs⟩
      · rw [if_neg hc, if_neg hc]; exact ⟨0, s, a, _, rfl, rfl, hs⟩
    · rw [if_neg he, if_neg he]; exact ⟨0, s, a, e, rfl, rfl, hs⟩
  · rw [if_neg hm, if_pos (by omega)]
    obtain ⟨n, s', a', e', h1, h2, h3⟩ := two_number s hs a e (IntKind.u64.wrap m) k hk
    rw [h1, h2]
    exact ⟨_, _, _, _, rfl, rfl, h3⟩
def TwoT (o : Option (ByteArray × ByteArray × Int × Int)) (r : Option (ByteArray × Int × Int × ByteArray)) : Prop := ∃ n s a e, o = some (n, s, a, e) ∧ r = some (s, a, e, n) ∧ s.size ≤ 140737488351232
theorem two_text (s : ByteArray) (hs : s.size ≤ 140737488351232) (a e m : Int) (k : Nat) (hk : 30 ≤ k) : TwoT (octet_Reader_Text.f k s a e m) (stowageref01_Reader_Text.f k s a e m) := by
  obtain ⟨k, rfl⟩ : ∃ j, k = j + 1 := ⟨k - 1, by omega⟩
  unfold octet_Reader_Text.f stowageref01_Reader_Text.f octet_Reader_Err.f
  simp only [Option.bind_some]
  by_cases he : e = 0
  · rw [if_pos he, if_pos he, oct_readText s hs a _ (by omega), ref_readText s hs a _ (by omega)]
    simp only [Option.bind_some]
    generalize readText s a = r
    obtain ⟨n, q, c⟩ := r
    simp only
    by_cases hc : c = 0
    · rw [if_pos hc, if_pos hc]
      by_cases hm : (n.size : Int) > m
      · rw [if_pos hm]; exact ⟨_, s, a, 2, by simp [octet_Reader_Text.j0, hm], rfl, hs⟩
      · rw [if_neg hm]; exact ⟨n, s, q, e, by simp [octet_Reader_Text.j0, hm, hc], rfl, hs⟩
    · rw [if_neg hc, if_neg hc]; exact ⟨_, s, a, c, by simp [octet_Reader_Text.j0, hc], rfl, hs⟩
  · rw [if_neg he, if_neg he]; exact ⟨_, s, a, e, rfl, rfl, hs⟩
def TwoB (o : Option (Bool × ByteArray × Int × Int)) (r : Option (ByteArray × Int × Int × Bool)) : Prop := ∃ n s a e, o = some (n, s, a, e) ∧ r = some (s, a, e, n) ∧ s.size ≤ 140737488351232
theorem two_bool (s : ByteArray) (hs : s.size ≤ 140737488351232) (a e : Int) (k : Nat) (hk : 30 ≤ k) : TwoB (octet_Reader_Bool.f k s a e) (stowageref01_Reader_Bool.f k s a e) := by
  unfold octet_Reader_Bool.f stowageref01_Reader_Bool.f octet_Reader_Err.f
  simp only [Option.bind_some]
  by_cases he : e = 0
  · rw [if_pos he, if_pos he]
    obtain ⟨n, s', a', e', h1, h2, h3⟩ := two_number s hs a e 1 k hk
    rw [h1, h2]
    simp only [Option.bind_some]
    by_cases h : e' = 2
    · rw [if_pos h, if_pos h]; exact ⟨_, _, _, _, rfl, rfl, h3⟩
    · rw [if_neg h, if_neg h]; exact ⟨_, _, _, _, rfl, rfl, h3⟩
  · rw [if_neg he, if_neg he]; exact ⟨_, s, a, e, rfl, rfl, hs⟩
theorem reads_j2 (k : Nat) (l : List S63) (i : Int) (s : ByteArray) (a e : Int) (h : stowagelaw01_OctetReads.l0 k l (wrap64 (i + 1)) s a e s a e = some true) : stowagelaw01_OctetReads.j2 (k + 1) l i true s a e s a e = some true := by
  simp only [stowagelaw01_OctetReads.j2, octet_Reader_Err.f, octet_Reader_At.f, Option.bind_some, if_true]
  exact h
theorem reads_l0 (l : List S63) (hl : l.length ≤ 1152921504606846976) : ∀ (d i : Nat), d + i = l.length → ∀ (s : ByteArray) (a e : Int) (k : Nat), s.size ≤ 140737488351232 → 2 * d + 50 < k → stowagelaw01_OctetReads.l0 k l i s a e s a e = some true := by
  intro d
  induction d with
  | zero =>
    intro i hi s a e k hs hk
    obtain ⟨k, rfl⟩ : ∃ j, k = j + 1 := ⟨k - 1, by omega⟩
    simp only [stowagelaw01_OctetReads.l0]
    rw [if_neg (by omega)]
    decide +kernel
  | succ d ih =>
    intro i hi s a e k hs hk
    obtain ⟨k, rfl⟩ : ∃ j, k = j + 2 := ⟨k - 2, by omega⟩
    have hn : ∀ (s : ByteArray) (a e : Int), s.size ≤ 140737488351232 → stowagelaw01_OctetReads.j2 (k + 1) l i true s a e s a e = some true := by
      intro s a e hs
      refine reads_j2 k l i s a e ?_
      rw [show wrap64 ((i : Int) + 1) = ((i + 1 : Nat) : Int) by rw [IntWalk.wrap64_in _ (by omega)]; omega]
      exact ih (i + 1) (by omega) s a e k hs (by omega)
    simp only [stowagelaw01_OctetReads.l0]
    rw [if_pos (by omega), if_pos (by omega)]
    generalize rd_T63 l i = x
    obtain ⟨f0, f1⟩ := x
    simp only
    by_cases h0 : f0 = 0
    · rw [if_pos h0]
      obtain ⟨n, s', a', e', h1, h2, h3⟩ := two_number s hs a e (IntKind.u64.wrap f1) (k + 1) (by omega)
      rw [h1, h2]
      simp only [Option.bind_some, beq_self_eq_true]
      exact hn s' a' e' h3
    rw [if_neg h0]
    by_cases h0 : f0 = 1
    · rw [if_pos h0]
      obtain ⟨n, s', a', e', h1, h2, h3⟩ := two_int s hs a e f1 (k + 1) (by omega)
      rw [h1, h2]
      simp only [Option.bind_some, beq_self_eq_true]
      exact hn s' a' e' h3
    rw [if_neg h0]
    by_cases h0 : f0 = 2
    · rw [if_pos h0]
      obtain ⟨n, s', a', e', h1, h2, h3⟩ := two_text s hs a e f1 (k + 1) (by omega)
      rw [h1, h2]
      simp only [Option.bind_some, beq_self_eq_true]
      exact hn s' a' e' h3
    rw [if_neg h0]
    by_cases h0 : f0 = 3
    · rw [if_pos h0]
      obtain ⟨n, s', a', e', h1, h2, h3⟩ := two_bool s hs a e (k + 1) (by omega)
      rw [h1, h2]
      simp only [Option.bind_some, beq_self_eq_true]
      exact hn s' a' e' h3
    rw [if_neg h0]
    by_cases h0 : f0 = 4
    · rw [if_pos h0]
      unfold octet_Reader_Fail.f
      by_cases he : e = 0
      · rw [if_pos he, Option.bind_some, if_pos he]
        exact hn s a f1 hs
      · rw [if_neg he, Option.bind_some, if_neg he]
        exact hn s a e hs
    rw [if_neg h0]
    unfold octet_Reader_End.f stowageref01_Reader_End.f
    by_cases he : e = 0
    · rw [if_pos he, if_pos he]
      by_cases ha : a < (s.size : Int)
      · rw [if_pos ha, if_pos ha]
        simp only [Option.bind_some, beq_self_eq_true]
        exact hn s a 2 hs
      · rw [if_neg ha, if_neg ha]
        simp only [Option.bind_some, beq_self_eq_true]
        exact hn s a e hs
    · rw [if_neg he, if_neg he]
      simp only [Option.bind_some, beq_self_eq_true]
      exact hn s a e hs
theorem OctetReads (s : ByteArray) (hs : s.size ≤ 140737488351232) (l : List S63) (hl : l.length ≤ 1152921504606846976) : stowagelaw01_OctetReads.f (2 * l.length + 60) s l = some true := by
  unfold stowagelaw01_OctetReads.f octet_NewReader.f
  rw [awake_true _ (by omega)]
  simp only [Option.bind_some, if_true]
  rw [show 2 * l.length + 60 = (2 * l.length + 59) + 1 by omega]
  simp only [stowagelaw01_OctetReads.j0]
  rw [if_neg (by simp)]
  exact reads_l0 l hl l.length 0 rfl s 0 0 _ hs (by omega)

end Go.Proofs.Ytmeggejeiggicaa.Pure
