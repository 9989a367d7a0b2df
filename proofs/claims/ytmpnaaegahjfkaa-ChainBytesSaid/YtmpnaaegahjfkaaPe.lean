
/- What package chain reads and writes as bytes, in plain Lean, and that the program and the reference answer it. -/
import Derived.Test.YtmpnaaegahjfkaaPc
import Derived.Test.YtmpnaaegahjfkaaQx19
import Derived.Test.YtmpnaaegahjfkaaQx20
import Derived.Test.YtmpnaaegahjfkaaQx21
import Derived.Test.YtmpnaaegahjfkaaQx22
import Derived.Test.YtmpnaaegahjfkaaQx23
import Derived.Test.YtmpnaaegahjfkaaQx24
namespace Go.Proofs.Ytmpnaaegahjfkaa.Q
open Go.RowKit Go.Proofs.YtmpnaaegahjfkaaW.PrintWords Go.Proofs.YtmpnaaegahjfkaaW.PrintLast Go.Proofs.YtmpnaaegahjfkaaW.PrintMore
set_option linter.unusedVariables false
set_option linter.unusedSimpArgs false
/-! numbers and texts as bytes (after package octet) -/
def nb (s : ByteArray) : List Nat := s.data.toList.map UInt8.toNat
theorem nb_app (a b : ByteArray) : nb (a ++ b) = nb a ++ nb b := by simp [nb, ByteArray.data_append]
theorem nb_inj {a b : ByteArray} (h : nb a = nb b) : a = b := by
 apply ByteArray.ext
 apply Array.toList_inj.1
 exact (List.map_inj_right (f := UInt8.toNat) (fun x y hxy => UInt8.toNat_inj.1 hxy)).1 h
/-- what ReadNumber answers, from the i-th byte on -/
def rnum (s : ByteArray) (p : Nat) : Nat → Nat → Nat → Int × Int × Int
 | 0, _, _ => (0, 0, 3)
 | d + 1, i, n =>
  if (p + i : Nat) ≥ s.size then (0, 0, 5)
  else if (i = 9 ∧ 1 < bt s (p + i : Nat)) ∨ (0 < i ∧ bt s (p + i : Nat) = 0) then (0, 0, 3)
  else if bt s (p + i : Nat) < 128 then (((n + (bt s (p + i : Nat)).toNat % 128 * 128 ^ i : Nat) : Int), ((p + i + 1 : Nat) : Int), 0)
  else rnum s p d (i + 1) (n + (bt s (p + i : Nat)).toNat % 128 * 128 ^ i)

theorem wraps_u64 (j : Nat) (hj : j ≤ 64) (n : Int) (h₀ : 0 ≤ n) (h₁ : n < 2 ^ j) : IntKind.u64.wrap n = n := by
 apply IntWalk.u64_in
 have : (2:Int) ^ j ≤ 2 ^ 64 := by exact_mod_cast Nat.pow_le_pow_right (by decide) hj
 omega
theorem and127 (b : Int) (h0 : 0 ≤ b) (h1 : b ≤ 255) : Go.bits .and .u8 b 127 = b % 128 :=
 bits_mask .u8 8 (by decide) wraps_u8 7 (by decide) b h0 (by omega)
theorem or_low (n m i : Nat) (hn : n < 2 ^ i) (hm : m % 2 ^ i = 0) (hm1 : m < 2 ^ 64) (hn1 : n < 2 ^ 64) : Go.bits .or .u64 (n : Int) (m : Int) = ((n + m : Nat) : Int) := by
 rw [(bits_nat .u64 64 (by decide) (wraps_u64 64 (by decide)) n m hn1 hm1).2, Nat.or_comm]
 have hq : m = 2 ^ i * (m / 2 ^ i) := by have := Nat.div_add_mod m (2 ^ i); omega
 rw [hq, ← Nat.two_pow_add_eq_or_of_lt hn (m / 2 ^ i), ← hq, Nat.add_comm]
theorem pow128 (i : Nat) : 128 ^ i = 2 ^ (7 * i) := by rw [show (128:Nat) = 2 ^ 7 from rfl, ← Nat.pow_mul]
theorem piece_lt (i : Nat) (hi : i ≤ 9) (c : Nat) (hc : c < 128) (h9 : i = 9 → c ≤ 1) : c * 128 ^ i < 2 ^ 64 := by
 by_cases h : i = 9
 ·subst h; have := h9 rfl; omega
 ·have h2 : 128 ^ i ≤ 128 ^ 8 := Nat.pow_le_pow_right (by decide) (by omega)
  have : c * 128 ^ i ≤ 127 * 128 ^ 8 := Nat.mul_le_mul (by omega) h2
  omega
theorem low_lt (i n : Nat) (hi : i ≤ 9) (hn : n < 128 ^ i) : n < 2 ^ 63 := by
 have h2 : 128 ^ i ≤ 128 ^ 9 := Nat.pow_le_pow_right (by decide) hi
 omega
/-- the step of a reading -/
theorem or_shl (i n : Nat) (hi : i ≤ 9) (hn : n < 128 ^ i) (b : Int) (h0 : 0 ≤ b) (h1 : b ≤ 255) (h9 : i = 9 → b ≤ 1) :
  Go.bits .or .u64 (n : Int) (shl .u64 (IntKind.u64.wrap (Go.bits .and .u8 b 127)) (wrap64 (7 * (i : Int)))) = ((n + b.toNat % 128 * 128 ^ i : Nat) : Int) := by
 obtain ⟨b, rfl⟩ := Int.eq_ofNat_of_zero_le h0
 rw [and127 _ h0 h1, IntWalk.u64_in _ (by omega), IntWalk.wrap64_in _ (by omega)]
 have hp := piece_lt i hi (b % 128) (by omega) (by omega)
 have e : shl .u64 ((b : Int) % 128) (7 * (i : Int)) = ((b % 128 * 128 ^ i : Nat) : Int) := by
  unfold shl
  rw [show min (7 * (i : Int)).toNat IntKind.u64.bits = 7 * i from by simp [IntKind.bits]; omega]
  have : ((b : Int) % 128) * 2 ^ (7 * i) = ((b % 128 * 128 ^ i : Nat) : Int) := by rw [pow128]; simp
  rw [this]
  exact wraps_u64 64 (by decide) _ (by omega) (by exact_mod_cast hp)
 rw [e, Int.toNat_natCast]
 have := low_lt i n hi hn
 exact or_low n _ (7 * i) (by rw [← pow128]; exact hn) (by rw [← pow128]; exact Nat.mul_mod_left _ _) hp (by omega)
def readNum (s : ByteArray) (at' : Int) : Int × Int × Int := if at' < 0 ∨ (s.size : Int) < at' then (0, 0, 1) else rnum s at'.toNat 10 0 0

theorem oct_l0 (s : ByteArray) (hs : s.size ≤ 140737488351232) (p : Nat) (hp : p ≤ s.size) : ∀ (d i n : Nat), d + i = 10 → i ≤ 9 → n < 128 ^ i → ∀ k, 2 * d ≤ k →
  octet_ReadNumber.l0 k s p n i = some (rnum s p d i n) := by
 intro d
 induction d with
 | zero => intro i n h1 h2; omega
 | succ d ih =>
  intro i n hd hi hn k hk
  obtain ⟨k, rfl⟩ : ∃ m, k = m + 2 := ⟨k - 2, by omega⟩
  have hw : wrap64 ((p : Int) + (i : Int)) = ((p + i : Nat) : Int) := by rw [IntWalk.wrap64_in _ (by omega)]; omega
  simp only [octet_ReadNumber.l0, hw, rnum]
  rw [if_pos (by omega)]
  by_cases h1 : (p + i) ≥ s.size
  ·rw [if_pos (by omega), if_pos h1]
  ·rw [if_neg (by omega), if_neg h1, if_pos (by omega), if_pos (by omega)]
   obtain ⟨hb0, hb1⟩ := bt_range s ((p + i : Nat) : Int)
   generalize bt s ((p + i : Nat) : Int) = b at *
   have key : ∀ c : Bool, (c = true ↔ ((i = 9 ∧ 1 < b) ∨ (0 < i ∧ b = 0))) → octet_ReadNumber.j2 (k + 1) s p n i b i c = some (if (i = 9 ∧ 1 < b) ∨ (0 < i ∧ b = 0) then (0, 0, 3) else if b < 128 then (((n + b.toNat % 128 * 128 ^ i : Nat) : Int), ((p + i + 1 : Nat) : Int), 0) else rnum s p d (i + 1) (n + b.toNat % 128 * 128 ^ i)) := by
    intro c hc
    simp only [octet_ReadNumber.j2]
    by_cases hC : (i = 9 ∧ 1 < b) ∨ (0 < i ∧ b = 0)
    ·rw [if_pos (hc.2 hC), if_pos hC]
    ·rw [if_neg (fun h => hC (hc.1 h)), if_neg hC]
     rw [if_pos (by rw [IntWalk.wrap64_in _ (by omega)]; omega)]
     rw [or_shl i n hi hn b hb0 hb1 (by omega)]
     by_cases h128 : b < 128
     ·rw [if_pos h128, if_pos h128, hw, IntWalk.wrap64_in _ (by omega)]
      simp
     ·rw [if_neg h128, if_neg h128]
      have hi' : i ≤ 8 := by omega
      have e1 : wrap64 ((i : Int) + 1) = ((i + 1 : Nat) : Int) := by rw [IntWalk.wrap64_in _ (by omega)]; omega
      rw [e1]
      refine ih (i + 1) _ (by omega) (by omega) ?_ k (by omega)
      have h2 : b.toNat % 128 * 128 ^ i ≤ 127 * 128 ^ i := Nat.mul_le_mul_right _ (by omega)
      rw [Nat.pow_succ]; omega
   by_cases h9 : i = 9
   ·rw [if_pos (by omega)]
    by_cases hb : b > 1
    ·rw [if_pos hb]; exact key true (by simp; omega)
    ·rw [if_neg hb, if_pos (by omega)]; exact key _ (by rw [beq_iff_eq]; omega)
   ·rw [if_neg (by omega)]
    by_cases h0 : i > 0
    ·rw [if_pos (by omega)]; exact key _ (by rw [beq_iff_eq]; omega)
    ·rw [if_neg (by omega)]; exact key _ (by simp; omega)

theorem oct_read (s : ByteArray) (hs : s.size ≤ 140737488351232) (a : Int) (k : Nat) (hk : 21 ≤ k) : octet_ReadNumber.f k s a = some (readNum s a) := by
 obtain ⟨k, rfl⟩ : ∃ m, k = m + 1 := ⟨k - 1, by omega⟩
 unfold octet_ReadNumber.f readNum
 by_cases h : a < 0
 ·rw [if_pos h, if_pos (.inl h)]; simp [octet_ReadNumber.j0]
 ·rw [if_neg h]
  by_cases h2 : (s.size : Int) < a
  ·rw [if_pos (.inr h2)]; simp [octet_ReadNumber.j0, h2]
  ·rw [if_neg (by omega)]
   simp only [octet_ReadNumber.j0]
   rw [if_neg (by simp; omega)]
   obtain ⟨p, rfl⟩ := Int.eq_ofNat_of_zero_le (show 0 ≤ a by omega)
   exact oct_l0 s hs p (by omega) 10 0 0 rfl (by omega) (by decide) k (by omega)

theorem ref_l0 (s : ByteArray) (hs : s.size ≤ 140737488351232) (p : Nat) (hp : p ≤ s.size) : ∀ (d i n : Nat), d + i = 10 → i ≤ 9 → n < 128 ^ i → ∀ k, 2 * d ≤ k →
  stowageref01_ReadNumber.l0 k s p n (128 ^ i : Nat) (p + i : Nat) = some (rnum s p d i n) := by
 intro d
 induction d with
 | zero => intro i n h1 h2; omega
 | succ d ih =>
  intro i n hd hi hn k hk
  obtain ⟨k, rfl⟩ : ∃ m, k = m + 2 := ⟨k - 2, by omega⟩
  simp only [stowageref01_ReadNumber.l0, rnum]
  by_cases h1 : (p + i) ≥ s.size
  ·rw [if_pos (by omega), if_pos h1]
  ·rw [if_neg (by omega), if_neg h1, if_pos (by omega), if_pos (by omega)]
   obtain ⟨hb0, hb1⟩ := bt_range s ((p + i : Nat) : Int)
   generalize bt s ((p + i : Nat) : Int) = b at *
   have hbw : IntKind.u64.wrap b = b := IntWalk.u64_in _ (by omega)
   have hw : wrap64 (((p + i : Nat) : Int) - p) = (i : Int) := by rw [IntWalk.wrap64_in _ (by omega)]; omega
   rw [hbw, hw]
   have key : ∀ c : Bool, (c = true ↔ ((i = 9 ∧ 1 < b) ∨ (0 < i ∧ b = 0))) → stowageref01_ReadNumber.j2 (k + 1) s p n (128 ^ i : Nat) (p + i : Nat) b c = some (if (i = 9 ∧ 1 < b) ∨ (0 < i ∧ b = 0) then (0, 0, 3) else if b < 128 then (((n + b.toNat % 128 * 128 ^ i : Nat) : Int), ((p + i + 1 : Nat) : Int), 0) else rnum s p d (i + 1) (n + b.toNat % 128 * 128 ^ i)) := by
    intro c hc
    simp only [stowageref01_ReadNumber.j2]
    by_cases hC : (i = 9 ∧ 1 < b) ∨ (0 < i ∧ b = 0)
    ·rw [if_pos (hc.2 hC), if_pos hC]
    ·rw [if_neg (fun h => hC (hc.1 h)), if_neg hC]
     obtain ⟨b, rfl⟩ := Int.eq_ofNat_of_zero_le hb0
     have hp := piece_lt i hi (b % 128) (by omega) (by omega)
     have e : IntKind.u64.wrap (Int.tmod (b : Int) 128 * ((128 ^ i : Nat) : Int)) = ((b % 128 * 128 ^ i : Nat) : Int) := by
      rw [Int.tmod_eq_emod_of_nonneg (by omega)]
      have : ((b : Int) % 128) * ((128 ^ i : Nat) : Int) = ((b % 128 * 128 ^ i : Nat) : Int) := by simp
      rw [this]
      exact wraps_u64 64 (by decide) _ (by omega) (by exact_mod_cast hp)
     have hlow := low_lt i n hi hn
     have e2 : IntKind.u64.wrap ((n : Int) + ((b % 128 * 128 ^ i : Nat) : Int)) = ((n + b % 128 * 128 ^ i : Nat) : Int) := by
      by_cases h9 : i = 9
      ·subst h9
       rw [IntWalk.u64_in _ (by omega)]; omega
      ·have hp8 : 128 ^ i ≤ 128 ^ 8 := Nat.pow_le_pow_right (by decide) (by omega)
       have : b % 128 * 128 ^ i ≤ 127 * 128 ^ 8 := Nat.mul_le_mul (by omega) hp8
       rw [IntWalk.u64_in _ (by omega)]; omega
     rw [e, e2, Int.toNat_natCast]
     have e3 : wrap64 (((p + i : Nat) : Int) + 1) = ((p + i + 1 : Nat) : Int) := by rw [IntWalk.wrap64_in _ (by omega)]; omega
     rw [e3]
     by_cases h128 : (b : Int) < 128
     ·rw [if_pos h128, if_pos h128]
     ·rw [if_neg h128, if_neg h128]
      have hi' : i ≤ 8 := by omega
      have hp8 : 128 ^ i ≤ 128 ^ 8 := Nat.pow_le_pow_right (by decide) (by omega)
      have e4 : IntKind.u64.wrap (((128 ^ i : Nat) : Int) * 128) = ((128 ^ (i + 1) : Nat) : Int) := by
       rw [IntWalk.u64_in _ (by omega), Nat.pow_succ]; omega
      rw [e4]
      refine ih (i + 1) _ (by omega) (by omega) ?_ k (by omega)
      have h2 : b % 128 * 128 ^ i ≤ 127 * 128 ^ i := Nat.mul_le_mul_right _ (by omega)
      rw [Nat.pow_succ]; omega
   by_cases h9 : i = 9
   ·rw [if_pos (by omega)]
    by_cases hb : b > 1
    ·rw [if_pos hb]; exact key true (by simp; omega)
    ·rw [if_neg hb, if_pos (by omega)]; exact key _ (by rw [beq_iff_eq]; omega)
   ·rw [if_neg (by omega)]
    by_cases h0 : i > 0
    ·rw [if_pos (by omega)]; exact key _ (by rw [beq_iff_eq]; omega)
    ·rw [if_neg (by omega)]; exact key _ (by simp; omega)

theorem ref_read (s : ByteArray) (hs : s.size ≤ 140737488351232) (a : Int) (k : Nat) (hk : 21 ≤ k) : stowageref01_ReadNumber.f k s a = some (readNum s a) := by
 obtain ⟨k, rfl⟩ : ∃ m, k = m + 1 := ⟨k - 1, by omega⟩
 unfold stowageref01_ReadNumber.f readNum
 by_cases h : a < 0
 ·rw [if_pos h, if_pos (.inl h)]; simp [stowageref01_ReadNumber.j0]
 ·rw [if_neg h]
  by_cases h2 : (s.size : Int) < a
  ·rw [if_pos (.inr h2)]; simp [stowageref01_ReadNumber.j0, h2]
  ·rw [if_neg (by omega)]
   simp only [stowageref01_ReadNumber.j0]
   rw [if_neg (by simp; omega)]
   obtain ⟨p, rfl⟩ := Int.eq_ofNat_of_zero_le (show 0 ≤ a by omega)
   exact ref_l0 s hs p (by omega) 10 0 0 rfl (by omega) (by decide) k (by omega)

/-- the bytes of a number -/
def encN : Nat → Nat → List Int
 | 0, _ => []
 | d + 1, n => if n < 128 then [(n : Int)] else ((n % 128 + 128 : Nat) : Int) :: encN d (n / 128)
def numS (n : Nat) : ByteArray := strOfNums (encN 10 n)
theorem encN_len : ∀ d n, (encN d n).length ≤ d := by
 intro d
 induction d with
 | zero => intro n; simp [encN]
 | succ d ih => intro n; simp only [encN]; split; simp; have := ih (n / 128); simp; omega
theorem or128 : ∀ m : Nat, m < 256 → m ||| 128 = m % 128 + 128 := by decide +kernel
theorem bits_or128 (x : Nat) : Go.bits .or .u8 (((x : Int)) % 256) 128 = ((x % 128 + 128 : Nat) : Int) := by
 have h := (bits_nat .u8 8 (by decide) wraps_u8 (x % 256) 128 (by omega) (by decide)).2
 have e : ((x : Int)) % 256 = ((x % 256 : Nat) : Int) := by omega
 rw [e, show (128 : Int) = ((128 : Nat) : Int) from rfl, h, or128 _ (by omega), show x % 256 % 128 = x % 128 by omega]
theorem oct_num_l0 : ∀ d x : Nat, x < 128 ^ d → 0 < d → ∀ (acc : List Int) (k : Nat), acc.length + d ≤ 100 → d ≤ k → octet_Number.l0 k x acc = some (strOfNums (acc ++ encN d x)) := by
 intro d
 induction d with
 | zero => intro x _ h; omega
 | succ d ih =>
  intro x hx _ acc k hacc hk
  obtain ⟨k, rfl⟩ : ∃ m, k = m + 1 := ⟨k - 1, by omega⟩
  simp only [octet_Number.l0, encN]
  by_cases h : x < 128
  ·rw [if_neg (by omega), if_pos (by omega), if_pos h, show (x : Int) % 256 = x by omega]
  ·rw [if_pos (by omega), if_pos (by omega), if_neg h, bits_or128]
   have hd : 0 < d := by
    rcases Nat.eq_zero_or_pos d with h0 | h0
    ·subst h0; simp at hx; omega
    ·exact h0
   rw [show (x : Int) / 128 = ((x / 128 : Nat) : Int) by omega]
   rw [ih (x / 128) (by rw [Nat.pow_succ] at hx; exact Nat.div_lt_of_lt_mul (by omega)) hd _ k (by simp; omega) (by omega)]
   simp
theorem oct_num (x : Nat) (hx : x < 2 ^ 64) (k : Nat) (hk : 10 ≤ k) : octet_Number.f k x = some (numS x) := by
 unfold octet_Number.f numS
 rw [oct_num_l0 10 x (by omega) (by omega) [] k (by simp) hk]; simp
theorem numS_app (xs ys : List Int) : strOfNums xs ++ strOfNums ys = strOfNums (xs ++ ys) := by
 apply ByteArray.ext
 simp [strOfNums]
theorem ref_num_l : ∀ d x : Nat, x < 128 ^ d → 0 < d → d ≤ 20 → x < 2 ^ 64 → ∀ (k : Nat), d ≤ k → stowageref01_Number.f k x = some (strOfNums (encN d x)) := by
 intro d
 induction d with
 | zero => intro x _ h; omega
 | succ d ih =>
  intro x hx _ hd20 h64 k hk
  obtain ⟨k, rfl⟩ : ∃ m, k = m + 1 := ⟨k - 1, by omega⟩
  simp only [stowageref01_Number.f, encN]
  by_cases h : x < 128
  ·rw [if_pos (by omega), if_pos h, show (x : Int) % 256 = x by omega]
  ·rw [if_neg (by omega), if_neg h]
   have hd : 0 < d := by
    rcases Nat.eq_zero_or_pos d with h0 | h0
    ·subst h0; simp at hx; omega
    ·exact h0
   have e1 : IntKind.u64.wrap (Int.tdiv (x : Int) 128) = ((x / 128 : Nat) : Int) := by
    rw [Int.tdiv_eq_ediv_of_nonneg (by omega), IntWalk.u64_in _ (by omega)]; omega
   have e2 : IntKind.u64.wrap (Int.tmod (x : Int) 128 + 128) % 256 = ((x % 128 + 128 : Nat) : Int) := by
    rw [Int.tmod_eq_emod_of_nonneg (by omega), IntWalk.u64_in _ (by omega)]; omega
   rw [e1, e2]
   simp only [Option.bind_some]
   rw [ih (x / 128) (by rw [Nat.pow_succ] at hx; exact Nat.div_lt_of_lt_mul (by omega)) hd (by omega) (by omega) k (by omega)]
   simp only [Option.bind_some]
   have hl := encN_len d (x / 128)
   rw [if_pos (by rw [strOfNums_size, strOfNums_size]; simp; omega), numS_app]
   rfl
theorem ref_num (x : Nat) (hx : x < 2 ^ 64) (k : Nat) (hk : 10 ≤ k) : stowageref01_Number.f k x = some (numS x) := ref_num_l 10 x (by omega) (by omega) (by omega) hx k hk
theorem numS_size (n : Nat) : (numS n).size ≤ 10 := by unfold numS; rw [strOfNums_size]; exact encN_len 10 n

/-- what is known of a number that was read -/
theorem rnum_ok (s : ByteArray) (p : Nat) : ∀ (d i n : Nat), d + i = 10 → n < 128 ^ i → (rnum s p d i n).2.2 = 0 →
  0 ≤ (rnum s p d i n).1 ∧ (rnum s p d i n).1 < 2 ^ 64 ∧ (p + i : Nat) < (rnum s p d i n).2.1 ∧ (rnum s p d i n).2.1 ≤ s.size := by
 intro d
 induction d with
 | zero => intro i n _ _ h; simp [rnum] at h
 | succ d ih =>
  intro i n hd hn
  simp only [rnum]
  by_cases h1 : (p + i) ≥ s.size
  ·rw [if_pos h1]; intro h; simp at h
  ·rw [if_neg h1]
   obtain ⟨hb0, hb1⟩ := bt_range s ((p + i : Nat) : Int)
   generalize bt s ((p + i : Nat) : Int) = b at *
   by_cases hC : (i = 9 ∧ 1 < b) ∨ (0 < i ∧ b = 0)
   ·rw [if_pos hC]; intro h; simp at h
   ·rw [if_neg hC]
    have hi : i ≤ 9 := by omega
    have hp := piece_lt i hi (b.toNat % 128) (by omega) (by omega)
    by_cases h128 : b < 128
    ·rw [if_pos h128]
     intro _
     refine ⟨Int.natCast_nonneg _, ?_, by show ((p + i : Nat) : Int) < ((p + i + 1 : Nat) : Int); omega, by show ((p + i + 1 : Nat) : Int) ≤ _; omega⟩
     show ((n + b.toNat % 128 * 128 ^ i : Nat) : Int) < 2 ^ 64
     by_cases h9 : i = 9
     ·subst h9
      have : b.toNat % 128 * 128 ^ 9 ≤ 1 * 128 ^ 9 := Nat.mul_le_mul_right _ (by omega)
      omega
     ·have hp8 : 128 ^ i ≤ 128 ^ 8 := Nat.pow_le_pow_right (by decide) (by omega)
      have : b.toNat % 128 * 128 ^ i ≤ 127 * 128 ^ 8 := Nat.mul_le_mul (by omega) hp8
      omega
    ·rw [if_neg h128]
     intro h
     have h2 : b.toNat % 128 * 128 ^ i ≤ 127 * 128 ^ i := Nat.mul_le_mul_right _ (by omega)
     obtain ⟨g1, g2, g3, g4⟩ := ih (i + 1) _ (by omega) (by rw [Nat.pow_succ]; omega) h
     exact ⟨g1, g2, by omega, g4⟩
theorem readNum_ok {s : ByteArray} {a : Int} (h : (readNum s a).2.2 = 0) : 0 ≤ a ∧ a < (readNum s a).2.1 ∧ (readNum s a).2.1 ≤ s.size ∧ 0 ≤ (readNum s a).1 ∧ (readNum s a).1 < 2 ^ 64 := by
 unfold readNum at h ⊢
 by_cases hC : a < 0 ∨ (s.size : Int) < a
 ·rw [if_pos hC] at h; simp at h
 ·rw [if_neg hC] at h ⊢
  obtain ⟨p, rfl⟩ := Int.eq_ofNat_of_zero_le (show 0 ≤ a by omega)
  obtain ⟨g1, g2, g3, g4⟩ := rnum_ok s (p : Int).toNat 10 0 0 rfl (by decide) h
  exact ⟨by omega, by simpa using g3, g4, g1, g2⟩

def readText (s : ByteArray) (a : Int) : ByteArray × Int × Int :=
 let r := readNum s a
 if r.2.2 = 0 then (if r.1 > (s.size : Int) - r.2.1 then (⟨#[]⟩, 0, 5) else (s.extract r.2.1.toNat (r.2.1 + r.1).toNat, r.2.1 + r.1, 0)) else (⟨#[]⟩, 0, r.2.2)

theorem oct_readText (s : ByteArray) (hs : s.size ≤ 140737488351232) (a : Int) (k : Nat) (hk : 21 ≤ k) : octet_ReadText.f k s a = some (readText s a) := by
 unfold octet_ReadText.f
 rw [oct_read s hs a k hk]
 simp only [Option.bind_some]
 unfold readText
 have H := @readNum_ok s a
 generalize readNum s a = r at *
 obtain ⟨n, q, e⟩ := r
 simp only at *
 by_cases he : e = 0
 ·rw [if_pos he, if_pos he]
  obtain ⟨h1, h2, h3, h4, h5⟩ := H he
  have w1 : IntKind.u64.wrap (wrap64 ((s.size : Int) - q)) = (s.size : Int) - q := by
   rw [IntWalk.wrap64_in _ (by omega), IntWalk.u64_in _ (by omega)]
  rw [w1]
  by_cases hn : n > (s.size : Int) - q
  ·rw [if_pos hn, if_pos hn]
  ·rw [if_neg hn, if_neg hn]
   have w2 : wrap64 n = n := IntWalk.wrap64_in _ (by omega)
   have w3 : wrap64 (q + n) = q + n := IntWalk.wrap64_in _ (by omega)
   rw [w2, w3, if_pos (by omega), if_pos (by omega), if_pos (by omega)]
 ·rw [if_neg he, if_neg he]
theorem ref_readText (s : ByteArray) (hs : s.size ≤ 140737488351232) (a : Int) (k : Nat) (hk : 21 ≤ k) : stowageref01_ReadText.f k s a = some (readText s a) := by
 unfold stowageref01_ReadText.f
 rw [ref_read s hs a k hk]
 simp only [Option.bind_some]
 unfold readText
 have H := @readNum_ok s a
 generalize readNum s a = r at *
 obtain ⟨n, q, e⟩ := r
 simp only at *
 by_cases he : e = 0
 ·rw [if_pos he, if_pos he]
  obtain ⟨h1, h2, h3, h4, h5⟩ := H he
  have w1 : IntKind.u64.wrap (s.size : Int) = (s.size : Int) := by rw [IntWalk.u64_in _ (by omega)]
  have w0 : wrap64 ((s.size : Int) - q) = (s.size : Int) - q := by rw [IntWalk.wrap64_in _ (by omega)]
  rw [w1, w0]
  by_cases hn : n > (s.size : Int) - q
  ·rw [if_pos hn]
   by_cases hn2 : n > (s.size : Int)
   ·rw [if_pos hn2]
   ·rw [if_neg hn2, IntWalk.wrap64_in _ (by omega), if_pos hn]
  ·rw [if_neg hn, if_neg (by omega)]
   have w2 : wrap64 n = n := IntWalk.wrap64_in _ (by omega)
   have w3 : wrap64 (q + n) = q + n := IntWalk.wrap64_in _ (by omega)
   rw [w2, w3, if_neg hn, if_pos (by omega), if_pos (by omega), if_pos (by omega)]
 ·rw [if_neg he, if_neg he]
theorem oct_text (s : ByteArray) (hs : s.size ≤ 140737488351232) (k : Nat) (hk : 21 ≤ k) : octet_Text.f k s = some (numS s.size ++ s) := by
 unfold octet_Text.f
 rw [IntWalk.u64_in _ (by omega), oct_num _ (by omega) k (by omega)]
 simp only [Option.bind_some]
 have := numS_size s.size
 rw [if_pos (by omega)]
theorem ref_text (s : ByteArray) (hs : s.size ≤ 140737488351232) (k : Nat) (hk : 21 ≤ k) : stowageref01_Text.f k s = some (numS s.size ++ s) := by
 unfold stowageref01_Text.f
 rw [IntWalk.u64_in _ (by omega), ref_num _ (by omega) k (by omega)]
 simp only [Option.bind_some]
 have := numS_size s.size
 rw [if_pos (by omega)]

/-! the reader in plain Lean -/
def pNum (s : ByteArray) (a e m : Int) : Int × Int × Int :=
 if e = 0 then (let r := readNum s a; if r.2.2 = 0 then (if r.1 > m then (0, a, 2) else (r.1, r.2.1, 0)) else (0, a, r.2.2)) else (0, a, e)
def pBool (s : ByteArray) (a e : Int) : Bool × Int × Int :=
 if e = 0 then (let r := pNum s a e 1; (r.1 == 1, r.2.1, if r.2.2 = 2 then 3 else r.2.2)) else (false, a, e)
def pText (s : ByteArray) (a e m : Int) : ByteArray × Int × Int :=
 if e = 0 then (let r := readText s a; if r.2.2 = 0 then (if (r.1.size : Int) > m then (⟨#[]⟩, a, 2) else (r.1, r.2.1, 0)) else (⟨#[]⟩, a, r.2.2)) else (⟨#[]⟩, a, e)
def pEnd (s : ByteArray) (a e : Int) : Int := if e = 0 then (if a < (s.size : Int) then 2 else e) else e
theorem oct_pNum (s : ByteArray) (hs : s.size ≤ 140737488351232) (a e m : Int) : Ev (fun k => octet_Reader_Number.f k s a e m) ((pNum s a e m).1, s, (pNum s a e m).2.1, (pNum s a e m).2.2) := by
 refine ⟨30, fun k hk => ?_⟩
 obtain ⟨k, rfl⟩ : ∃ q, k = q + 1 := ⟨k - 1, by omega⟩
 unfold octet_Reader_Number.f octet_Reader_Err.f pNum
 simp only [Option.bind_some]
 by_cases he : e = 0
 ·rw [if_pos he, if_pos he, oct_read s hs a (k + 1) (by omega)]
  simp only [Option.bind_some]
  by_cases h0 : (readNum s a).2.2 = 0
  ·rw [if_pos h0, if_pos h0]
   simp only [octet_Reader_Number.j0, decide_eq_true_iff]
   by_cases hm : (readNum s a).1 > m
   ·rw [if_pos hm, if_pos hm]
   ·rw [if_neg hm, if_neg hm, if_pos h0, he]
  ·rw [if_neg h0, if_neg h0]
   simp only [octet_Reader_Number.j0]
   rw [if_neg (by simp), if_neg h0]
 ·rw [if_neg he, if_neg he]
theorem ref_pNum (s : ByteArray) (hs : s.size ≤ 140737488351232) (a e m : Int) : Ev (fun k => stowageref01_Reader_Number.f k s a e m) (s, (pNum s a e m).2.1, (pNum s a e m).2.2, (pNum s a e m).1) := by
 refine ⟨30, fun k hk => ?_⟩
 show stowageref01_Reader_Number.f k s a e m = _
 unfold stowageref01_Reader_Number.f pNum
 by_cases he : e = 0
 ·rw [if_pos he, if_pos he, ref_read s hs a k (by omega)]
  simp only [Option.bind_some]
  by_cases h0 : (readNum s a).2.2 = 0
  ·rw [if_pos h0, if_pos h0]
   by_cases hm : (readNum s a).1 > m
   ·rw [if_pos hm, if_pos hm]
   ·rw [if_neg hm, if_neg hm, he]
  ·rw [if_neg h0, if_neg h0]
 ·rw [if_neg he, if_neg he]
theorem pNum_range (s : ByteArray) (a e m : Int) (hm : 0 ≤ m) : 0 ≤ (pNum s a e m).1 ∧ (pNum s a e m).1 ≤ m := by
 unfold pNum
 by_cases he : e = 0
 ·rw [if_pos he]
  have H := @readNum_ok s a
  generalize readNum s a = r at H
  simp only
  by_cases h0 : r.2.2 = 0
  ·rw [if_pos h0]
   by_cases hq : r.1 > m
   ·rw [if_pos hq]; exact ⟨Int.le_refl _, hm⟩
   ·rw [if_neg hq]; exact ⟨(H h0).2.2.2.1, by omega⟩
  ·rw [if_neg h0]; exact ⟨Int.le_refl _, hm⟩
 ·rw [if_neg he]; exact ⟨Int.le_refl _, hm⟩
theorem oct_pInt (s : ByteArray) (hs : s.size ≤ 140737488351232) (a e m : Int) (h0 : 0 ≤ m) (h1 : m ≤ 9000000000000000000) : Ev (fun k => octet_Reader_Int.f k s a e m) ((pNum s a e m).1, s, (pNum s a e m).2.1, (pNum s a e m).2.2) := by
 have hr := pNum_range s a e m h0
 refine Ev.congr (f := fun k => (octet_Reader_Number.f k s a e m).bind fun bt478 => some (wrap64 bt478.1, bt478.2.1, bt478.2.2.1, bt478.2.2.2)) (fun k => ?_) (Ev.bind (oct_pNum s hs a e m) (Ev.congr (fun k => ?_) (Ev.now _)))
 ·unfold octet_Reader_Int.f
  rw [if_neg (by omega), IntWalk.u64_in m (by omega)]
 ·simp only; rw [IntWalk.wrap64_in _ (by omega)]
theorem ref_pInt (s : ByteArray) (hs : s.size ≤ 140737488351232) (a e m : Int) (h0 : 0 ≤ m) (h1 : m ≤ 9000000000000000000) : Ev (fun k => stowageref01_Reader_Int.f k s a e m) (s, (pNum s a e m).2.1, (pNum s a e m).2.2, (pNum s a e m).1) := by
 have hr := pNum_range s a e m h0
 refine Ev.congr (f := fun k => (stowageref01_Reader_Number.f k s a e m).bind fun bt478 => some (bt478.1, bt478.2.1, bt478.2.2.1, wrap64 bt478.2.2.2)) (fun k => ?_) (Ev.bind (ref_pNum s hs a e m) (Ev.congr (fun k => ?_) (Ev.now _)))
 ·unfold stowageref01_Reader_Int.f
  rw [if_pos (by omega), IntWalk.u64_in m (by omega)]
 ·simp only; rw [IntWalk.wrap64_in _ (by omega)]
theorem oct_pBool (s : ByteArray) (hs : s.size ≤ 140737488351232) (a e : Int) : Ev (fun k => octet_Reader_Bool.f k s a e) ((pBool s a e).1, s, (pBool s a e).2.1, (pBool s a e).2.2) := by
 unfold octet_Reader_Bool.f octet_Reader_Err.f pBool
 simp only [Option.bind_some]
 refine Ev.congr (f := fun k => if e = 0 then (octet_Reader_Number.f k s a e 1).bind fun bt486 => (if bt486.2.2.2 = 2 then (some ((bt486.1 == 1), bt486.2.1, bt486.2.2.1, 3)) else (some ((bt486.1 == 1), bt486.2.1, bt486.2.2.1, bt486.2.2.2))) else some (false, s, a, e)) (fun k => rfl) ?_
 by_cases he : e = 0
 ·simp only [if_pos he]
  refine Ev.bind (oct_pNum s hs a e 1) ?_
  generalize pNum s a e 1 = r
  by_cases h2 : r.2.2 = 2
  ·exact Ev.congr (f := fun _ => some (r.1 == 1, s, r.2.1, 3)) (fun k => if_pos h2) (by simp only [if_pos h2]; exact Ev.now _)
  ·exact Ev.congr (f := fun _ => some (r.1 == 1, s, r.2.1, r.2.2)) (fun k => if_neg h2) (by simp only [if_neg h2]; exact Ev.now _)
 ·simp only [if_neg he]; exact Ev.now _
theorem ref_pBool (s : ByteArray) (hs : s.size ≤ 140737488351232) (a e : Int) : Ev (fun k => stowageref01_Reader_Bool.f k s a e) (s, (pBool s a e).2.1, (pBool s a e).2.2, (pBool s a e).1) := by
 unfold stowageref01_Reader_Bool.f pBool
 by_cases he : e = 0
 ·simp only [if_pos he]
  refine Ev.bind (ref_pNum s hs a e 1) ?_
  generalize pNum s a e 1 = r
  by_cases h2 : r.2.2 = 2
  ·exact Ev.congr (f := fun _ => some (s, r.2.1, 3, r.1 == 1)) (fun k => if_pos h2) (by simp only [if_pos h2]; exact Ev.now _)
  ·exact Ev.congr (f := fun _ => some (s, r.2.1, r.2.2, r.1 == 1)) (fun k => if_neg h2) (by simp only [if_neg h2]; exact Ev.now _)
 ·simp only [if_neg he]; exact Ev.now _
theorem oct_pText (s : ByteArray) (hs : s.size ≤ 140737488351232) (a e m : Int) : Ev (fun k => octet_Reader_Text.f k s a e m) ((pText s a e m).1, s, (pText s a e m).2.1, (pText s a e m).2.2) := by
 refine ⟨30, fun k hk => ?_⟩
 obtain ⟨k, rfl⟩ : ∃ q, k = q + 1 := ⟨k - 1, by omega⟩
 unfold octet_Reader_Text.f octet_Reader_Err.f pText
 simp only [Option.bind_some]
 by_cases he : e = 0
 ·rw [if_pos he, if_pos he, oct_readText s hs a (k + 1) (by omega)]
  simp only [Option.bind_some]
  by_cases h0 : (readText s a).2.2 = 0
  ·rw [if_pos h0, if_pos h0]
   simp only [octet_Reader_Text.j0, decide_eq_true_iff]
   by_cases hm : ((readText s a).1.size : Int) > m
   ·rw [if_pos hm, if_pos hm]
   ·rw [if_neg hm, if_neg hm, if_pos h0, he]
  ·rw [if_neg h0, if_neg h0]
   simp only [octet_Reader_Text.j0]
   rw [if_neg (by simp), if_neg h0]
 ·rw [if_neg he, if_neg he]
theorem ref_pText (s : ByteArray) (hs : s.size ≤ 140737488351232) (a e m : Int) : Ev (fun k => stowageref01_Reader_Text.f k s a e m) (s, (pText s a e m).2.1, (pText s a e m).2.2, (pText s a e m).1) := by
 refine ⟨30, fun k hk => ?_⟩
 show stowageref01_Reader_Text.f k s a e m = _
 unfold stowageref01_Reader_Text.f pText
 by_cases he : e = 0
 ·rw [if_pos he, if_pos he, ref_readText s hs a k (by omega)]
  simp only [Option.bind_some]
  by_cases h0 : (readText s a).2.2 = 0
  ·rw [if_pos h0, if_pos h0]
   by_cases hm : ((readText s a).1.size : Int) > m
   ·rw [if_pos hm, if_pos hm]
   ·rw [if_neg hm, if_neg hm, he]
  ·rw [if_neg h0, if_neg h0]
 ·rw [if_neg he, if_neg he]
theorem pText_size (s : ByteArray) (a e m : Int) (hm : 0 ≤ m) : ((pText s a e m).1.size : Int) ≤ m := by
 have hz : ((⟨#[]⟩ : ByteArray).size : Int) ≤ m := hm
 unfold pText
 by_cases he : e = 0
 ·rw [if_pos he]
  simp only
  by_cases h0 : (readText s a).2.2 = 0
  ·rw [if_pos h0]
   by_cases hq : ((readText s a).1.size : Int) > m
   ·rw [if_pos hq]; exact hz
   ·rw [if_neg hq]; simp only; omega
  ·rw [if_neg h0]; exact hz
 ·rw [if_neg he]; exact hz
/-! what a reader keeps: the first error stays; without one the place goes on -/
/-! a chain's text in plain Lean -/
def encP : List S72 → ByteArray
 | [] => ⟨#[]⟩
 | p :: l => ((numS p.f0.size ++ p.f0) ++ numS p.f1.toNat) ++ encP l
def encV (v : S24) : ByteArray := numS v.f0.toNat ++ (if v.f1 = true then numS 1 else (numS 0 ++ numS v.f4.length) ++ (encP v.f4 ++ (numS v.f3.size ++ v.f3)))
def encL : List S24 → ByteArray
 | [] => ⟨#[]⟩
 | v :: l => encV v ++ encL l
def encodeS (l : List S24) : ByteArray × Int := if rightS l = true then (numS l.length ++ encL l, 0) else (⟨#[]⟩, 1)
theorem app_nil (s : ByteArray) : s ++ (⟨#[]⟩ : ByteArray) = s := nb_inj (by rw [nb_app]; exact List.append_nil _)
theorem app_assoc (a b c : ByteArray) : a ++ b ++ c = a ++ (b ++ c) := nb_inj (by rw [nb_app, nb_app, nb_app, nb_app, List.append_assoc])
theorem numS1 : numS 1 = (⟨#[1]⟩ : ByteArray) := by decide
theorem numS0 : numS 0 = (⟨#[0]⟩ : ByteArray) := by decide
theorem size_app (a b : ByteArray) : (a ++ b).size = a.size + b.size := ByteArray.size_append
theorem encP_size : ∀ (l : List S72), (∀ p ∈ l, p.f0.size ≤ 64) → (encP l).size ≤ 84 * l.length
 | [], _ => by unfold encP; exact Nat.zero_le _
 | p :: l, h => by
  have h1 := encP_size l (fun q hq => h q (List.mem_cons_of_mem _ hq))
  have h2 := h p List.mem_cons_self
  have h3 := numS_size p.f0.size
  have h4 := numS_size p.f1.toNat
  unfold encP
  rw [size_app, size_app, size_app, List.length_cons]
  omega
/-- what is told of a version that may be -/
structure Fine (v : S24) : Prop where
 id0 : 1 ≤ v.f0
 id1 : v.f0 ≤ 1099511627776
 len : v.f4.length ≤ 512
 ids : ∀ p ∈ v.f4, p.f0.size ≤ 64 ∧ 0 ≤ p.f1 ∧ p.f1 ≤ 4096
 sum : v.f3.size ≤ 64
 mark : v.f1 = true → v.f2 = 0 ∧ v.f3 = ⟨#[]⟩ ∧ v.f4 = []
 plain : v.f1 = false → (piecesS v.f4).1 = v.f2
theorem toList_nil {s : ByteArray} (h : s.toList = ([] : List UInt8)) : s = ⟨#[]⟩ := by
 have : s.data.toList = [] := by rw [← h]; exact (ByteArray.toList_eq s).symm
 cases s with | mk d => simp at this; rw [this]
theorem digitsS_size {s : ByteArray} (h : digitsS s = true) : s.size = 64 := by
 unfold digitsS at h
 rw [Bool.and_eq_true, decide_eq_true_iff] at h
 exact h.2
theorem fine_of {v : S24} (h : chkV v = 0) : Fine v := by
 have hl := chk_len h
 unfold chkV chk at h
 by_cases h1 : v.f0 < 1 ∨ v.f0 > 1099511627776
 ·rw [if_pos h1] at h; exact absurd h (by decide)
 ·rw [if_neg h1] at h
  by_cases h2 : v.f1 = true
  ·rw [if_pos h2] at h
   by_cases h3 : v.f2 = 0 ∧ v.f3.toList = [] ∧ v.f4.length = 0
   ·have e3 := toList_nil h3.2.1
    have e4 : v.f4 = [] := List.length_eq_zero_iff.1 h3.2.2
    exact ⟨by omega, by omega, hl, by rw [e4]; simp, by rw [e3]; decide, fun _ => ⟨h3.1, e3, e4⟩, fun e => by rw [h2] at e; cases e⟩
   ·rw [if_neg h3] at h; exact absurd h (by decide)
  ·rw [if_neg h2] at h
   by_cases h3 : (piecesS v.f4).2 = 0 ∧ (piecesS v.f4).1 = v.f2 ∧ (piecesS v.f4).1 ≤ 1048576 ∧ digitsS v.f3 = true
   ·have hz := digitsS_size h3.2.2.2
    refine ⟨by omega, by omega, hl, fun p hp => ?_, by omega, fun e => absurd e h2, fun _ => h3.2.1⟩
    have h4 := h3.1
    unfold piecesS at h4
    rw [if_neg (by omega)] at h4
    by_cases h5 : v.f4.all (fun p => pieceOk p.f0 p.f1) = true
    ·have := List.all_eq_true.1 h5 p hp
     unfold pieceOk at this
     rw [Bool.and_eq_true, decide_eq_true_iff] at this
     have hz2 := digitsS_size this.1
     exact ⟨by omega, by omega, by omega⟩
    ·rw [if_neg h5] at h4; exact absurd h4 (by decide)
   ·rw [if_neg h3] at h; exact absurd h (by decide)
theorem encV_size {v : S24} (h : Fine v) : (encV v).size ≤ 50000 := by
 have h1 := numS_size v.f0.toNat
 have h2 := numS_size 1
 have h3 := numS_size 0
 have h4 := numS_size v.f4.length
 have h5 := numS_size v.f3.size
 have h6 := encP_size v.f4 (fun p hp => (h.ids p hp).1)
 have h7 := h.len
 have h8 := h.sum
 unfold encV
 rw [size_app]
 split
 ·omega
 ·rw [size_app, size_app, size_app, size_app]; omega
theorem num_ev {n : Int} (h0 : 0 ≤ n) (h1 : n < 18446744073709551616) : Ev (fun k => octet_Number.f k (IntKind.u64.wrap n)) (numS n.toNat) := by
 refine ⟨10, fun k hk => ?_⟩
 obtain ⟨m, rfl⟩ := Int.eq_ofNat_of_zero_le h0
 rw [IntWalk.u64_in _ (by omega)]
 exact oct_num m (by omega) k hk
theorem rnum_ev {n : Int} (h0 : 0 ≤ n) (h1 : n < 18446744073709551616) : Ev (fun k => stowageref01_Number.f k (IntKind.u64.wrap n)) (numS n.toNat) := by
 refine ⟨10, fun k hk => ?_⟩
 obtain ⟨m, rfl⟩ := Int.eq_ofNat_of_zero_le h0
 rw [IntWalk.u64_in _ (by omega)]
 exact ref_num m (by omega) k hk
theorem text_ev {s : ByteArray} (h : s.size ≤ 64) : Ev (fun k => octet_Text.f k s) (numS s.size ++ s) := ⟨21, fun k hk => oct_text s (by omega) k hk⟩
theorem rtext_ev {s : ByteArray} (h : s.size ≤ 64) : Ev (fun k => stowageref01_Text.f k s) (numS s.size ++ s) := ⟨21, fun k hk => ref_text s (by omega) k hk⟩
theorem Ev.ifp {α : Type} {c : Prop} [Decidable c] {f : Nat → Option α} {r : α} (h : c) (hf : Ev f r) : Ev (fun k => if c then f k else none) r := Ev.congr (fun k => if_pos h) hf
theorem num1_ev : Ev (fun k => octet_Number.f k 1) (numS 1) := ⟨10, fun k hk => oct_num 1 (by decide) k hk⟩
theorem num0_ev : Ev (fun k => octet_Number.f k 0) (numS 0) := ⟨10, fun k hk => oct_num 0 (by decide) k hk⟩
theorem numL_ev {n : Nat} (h : n < 18446744073709551616) : Ev (fun k => octet_Number.f k (IntKind.u64.wrap (n : Int))) (numS n) := by
 have := num_ev (n := (n : Int)) (by omega) (by omega)
 rw [Int.toNat_natCast] at this
 exact this
theorem rnumL_ev {n : Nat} (h : n < 18446744073709551616) : Ev (fun k => stowageref01_Number.f k (IntKind.u64.wrap (n : Int))) (numS n) := by
 have := rnum_ev (n := (n : Int)) (by omega) (by omega)
 rw [Int.toNat_natCast] at this
 exact this
theorem szapp {a b : ByteArray} {m n : Nat} (ha : a.size ≤ m) (hb : b.size ≤ n) : (a ++ b).size ≤ m + n := by rw [size_app]; omega
theorem fits {a b n m : Nat} (ha : a ≤ n) (hb : b ≤ m) (h : n + m ≤ 100000000) : a + b ≤ 9223372036854775807 := by omega
theorem enc_inner (x16 : List S24) (x18 : Int) (b : List S72) (hb : b.length ≤ 512) (hids : ∀ p ∈ b, p.f0.size ≤ 64 ∧ 0 ≤ p.f1 ∧ p.f1 ≤ 4096) (c1 : Int) (c2 : Bool) (c3 : Int) (c4 : ByteArray) (c5 : List S72) (h4 : c4.size ≤ 64) (r : ByteArray × Int) :
  ∀ (d i : Nat) (s : ByteArray) (z : Nat), i + d = b.length → s.size ≤ z → z + 84 * d ≤ 99999000 → Ev (fun k => chain_Encode.l0 k ((s ++ encP (b.drop i)) ++ (numS c4.size ++ c4)) x16 (x16.length : Int) (wrap64 (x18 + 1))) r →
   Ev (fun k => chain_Encode.l1 k s x16 (x16.length : Int) x18 b (b.length : Int) (i : Int) c1 c2 c3 c4 c5) r
 | 0, i, s, z, h, hs, hz, hr => by
  have z1 := szapp (numS_size c4.size) h4
  rw [List.drop_of_length_le (by omega), encP, app_nil] at hr
  have hF := fits hs z1 (by omega)
  have r1 : ∀ k, chain_Encode.l1 (k + 1) s x16 (x16.length : Int) x18 b (b.length : Int) (i : Int) c1 c2 c3 c4 c5 = _ := fun k => by rw [chain_Encode.l1, if_neg (by omega)]
  refine Ev.step r1 (Ev.bind (text_ev h4) ?_)
  exact Ev.ifp hF hr
 | d + 1, i, s, z, h, hs, hz, hr => by
  have hi : i < b.length := by omega
  have hp := hids _ (List.getElem_mem hi)
  have z1 := szapp (numS_size (b[i]).f0.size) hp.1
  have z2 := numS_size (b[i]).f1.toNat
  have z3 := szapp z1 z2
  have z4 := szapp hs z3
  rw [List.drop_eq_getElem_cons hi, encP] at hr
  have hG := enc_inner x16 x18 b hb hids c1 c2 c3 c4 c5 h4 r d (i + 1) (s ++ ((numS (b[i]).f0.size ++ (b[i]).f0) ++ numS (b[i]).f1.toNat)) _ (by omega) z4 (by omega) (by rw [app_assoc s]; exact hr)
  have hF1 := fits z1 z2 (by omega)
  have hF2 := fits hs z3 (by omega)
  have r1 : ∀ k, chain_Encode.l1 (k + 1) s x16 (x16.length : Int) x18 b (b.length : Int) (i : Int) c1 c2 c3 c4 c5 = _ := fun k => by rw [chain_Encode.l1, if_pos (by omega), if_pos (by omega), if_pos (by omega), rd72 b i hi, w1 i (by omega)]
  refine Ev.step r1 (Ev.bind (text_ev hp.1) ?_)
  refine Ev.bind (num_ev hp.2.1 (by omega)) ?_
  refine Ev.ifp hF1 ?_
  exact Ev.ifp hF2 hG
theorem enc_go (l : List S24) (hl : l.length ≤ 32) (hf : ∀ v ∈ l, Fine v) : ∀ (d i : Nat) (s : ByteArray) (z : Nat), i + d = l.length → s.size ≤ z → z + 50000 * d ≤ 2000000 → Ev (fun k => chain_Encode.l0 k s l (l.length : Int) (i : Int)) (s ++ encL (l.drop i), 0)
 | 0, i, s, z, h, hs, hz => by
  rw [List.drop_of_length_le (by omega), encL, app_nil]
  exact Ev.step (f := fun _ => some (s, 0)) (fun k => by rw [chain_Encode.l0, if_neg (by omega)]) (Ev.now _)
 | d + 1, i, s, z, h, hs, hz => by
  have hi : i < l.length := by omega
  have hF := hf _ (mem_getD l i hi)
  have eg : l[i] = l.getD i z24 := by rw [List.getD_eq_getElem?_getD, List.getElem?_eq_getElem hi]; rfl
  have hG := enc_go l hl hf d (i + 1) (s ++ encV (l.getD i z24)) _ (by omega) (szapp hs (encV_size hF)) (by omega)
  have e : s ++ encL (l.drop i) = (s ++ encV (l.getD i z24)) ++ encL (l.drop (i + 1)) := by
   rw [List.drop_eq_getElem_cons hi, app_assoc, eg, encL]
  rw [e]
  have r1 : ∀ k, chain_Encode.l0 (k + 1) s l (l.length : Int) (i : Int) = _ := fun k => by
   rw [chain_Encode.l0, if_pos (by omega), if_pos (by omega), if_pos (by omega), rd24, w1 i (by omega)]
  generalize l.getD i z24 = v at *
  have f1 := hF.id0
  have f2 := hF.id1
  have f3 := hF.len
  have z1 := numS_size v.f0.toNat
  have z2 := numS_size 1
  have z3 := numS_size 0
  have z4 := numS_size v.f4.length
  have hN := num_ev (n := v.f0) (by omega) (by omega)
  have hF1 := fits hs z1 (by omega)
  have y1 := szapp hs z1
  by_cases hm : v.f1 = true
  ·have hF2 := fits y1 z2 (by omega)
   rw [encV, if_pos hm, ← app_assoc] at hG
   rw [encV, if_pos hm, ← app_assoc s]
   refine Ev.step r1 (Ev.bind hN ?_)
   refine Ev.ifp hF1 ?_
   refine Ev.congr (fun k => if_pos hm) ?_
   refine Ev.bind num1_ev ?_
   exact Ev.ifp hF2 hG
  ·have y2 := szapp z3 z4
   have hF2 := fits z3 z4 (by omega)
   have hF3 := fits y1 y2 (by omega)
   rw [encV, if_neg hm] at hG
   rw [encV, if_neg hm]
   have hI := enc_inner l (i : Int) v.f4 f3 hF.ids v.f0 v.f1 v.f2 v.f3 v.f4 hF.sum ((s ++ (numS v.f0.toNat ++ ((numS 0 ++ numS v.f4.length) ++ (encP v.f4 ++ (numS v.f3.size ++ v.f3))))) ++ encL (l.drop (i + 1)), 0) v.f4.length 0 ((s ++ numS v.f0.toNat) ++ (numS 0 ++ numS v.f4.length)) _ (by omega) (szapp y1 y2) (by omega) (by
    rw [w1 i (by omega), List.drop_zero, app_assoc s, app_assoc s, app_assoc s, app_assoc (numS v.f0.toNat), app_assoc (numS v.f0.toNat), app_assoc (numS 0 ++ numS v.f4.length)]
    exact hG)
   refine Ev.step r1 (Ev.bind hN ?_)
   refine Ev.ifp hF1 ?_
   refine Ev.congr (fun k => if_neg hm) ?_
   refine Ev.bind num0_ev ?_
   refine Ev.bind (numL_ev (n := v.f4.length) (by omega)) ?_
   refine Ev.ifp hF2 ?_
   exact Ev.ifp hF3 hI
theorem encode_ev (l : List S24) (hl : l.length ≤ 2199023255551) (hok : ∀ v ∈ l, OkV v) : Ev (fun k => chain_Encode.f k l) (encodeS l) := by
 unfold chain_Encode.f encodeS
 refine Ev.bind (right_ev l (by omega) hok) ?_
 by_cases hR : rightS l = true
 ·rw [if_pos hR]
  have h32 := (right_at hR).1
  have := enc_go l h32 (fun v hv => fine_of (right_mem hR hv)) l.length 0 (numS l.length) _ (by omega) (numS_size l.length) (by omega)
  rw [List.drop_zero] at this
  exact Ev.congr (fun k => if_pos hR) (Ev.bind (numL_ev (by omega)) this)
 ·rw [if_neg hR]
  exact Ev.congr (fun k => if_neg hR) (Ev.now _)
/-! the document's text is the same -/
theorem rd74m (l : List S72) (i : Nat) (h : i < l.length) : rd_T74 (l.map m74) (i : Int) = m74 l[i] := by
 rw [rd74 _ i (by rw [List.length_map]; exact h)]
 simp only [List.getElem_map]
theorem told_go (b : List S72) (hb : b.length ≤ 512) (hids : ∀ p ∈ b, p.f0.size ≤ 64 ∧ 0 ≤ p.f1 ∧ p.f1 ≤ 4096) : ∀ (d i : Nat) (s : ByteArray) (z : Nat), i + d = b.length → s.size ≤ z → z + 84 * d ≤ 99999000 → Ev (fun k => stowageref13_Told.l0 k (b.map m74) s (i : Int)) (s ++ encP (b.drop i))
 | 0, i, s, z, h, hs, hz => by
  have eL : ((b.map m74).length : Int) = (b.length : Int) := by rw [List.length_map]
  rw [List.drop_of_length_le (by omega), encP, app_nil]
  exact Ev.step (f := fun _ => some s) (fun k => by rw [stowageref13_Told.l0, eL, if_neg (by omega)]) (Ev.now _)
 | d + 1, i, s, z, h, hs, hz => by
  have eL : ((b.map m74).length : Int) = (b.length : Int) := by rw [List.length_map]
  have hi : i < b.length := by omega
  have hp := hids _ (List.getElem_mem hi)
  have z1 := szapp (numS_size (b[i]).f0.size) hp.1
  have z2 := numS_size (b[i]).f1.toNat
  have y1 := szapp hs z1
  have hG := told_go b hb hids d (i + 1) ((s ++ (numS (b[i]).f0.size ++ (b[i]).f0)) ++ numS (b[i]).f1.toNat) _ (by omega) (szapp y1 z2) (by omega)
  have e : s ++ encP (b.drop i) = ((s ++ (numS (b[i]).f0.size ++ (b[i]).f0)) ++ numS (b[i]).f1.toNat) ++ encP (b.drop (i + 1)) := by
   rw [List.drop_eq_getElem_cons hi, encP, app_assoc s, app_assoc s]
  rw [e]
  have hF1 := fits hs z1 (by omega)
  have hF2 := fits y1 z2 (by omega)
  have r1 : ∀ k, stowageref13_Told.l0 (k + 1) (b.map m74) s (i : Int) = _ := fun k => by rw [stowageref13_Told.l0, eL, if_pos (by omega), if_pos (by omega), rd74m b i hi, w1 i (by omega)]
  refine Ev.step r1 (Ev.bind (rtext_ev (s := (m74 b[i]).f0) hp.1) ?_)
  refine Ev.ifp hF1 ?_
  refine Ev.bind (rnum_ev (n := (m74 b[i]).f1) hp.2.1 (by show b[i].f1 < _; omega)) ?_
  exact Ev.ifp hF2 hG
theorem told_ev (b : List S72) (hb : b.length ≤ 512) (hids : ∀ p ∈ b, p.f0.size ≤ 64 ∧ 0 ≤ p.f1 ∧ p.f1 ≤ 4096) : Ev (fun k => stowageref13_Told.f k (b.map m74)) (numS b.length ++ encP b) := by
 unfold stowageref13_Told.f
 rw [List.length_map]
 refine Ev.bind (rnumL_ev (by omega)) ?_
 have := told_go b hb hids b.length 0 (numS b.length) _ (by omega) (numS_size _) (by omega)
 rw [List.drop_zero] at this
 exact this
theorem renc_go (l : List S24) (hl : l.length ≤ 32) (hf : ∀ v ∈ l, Fine v) : ∀ (d i : Nat) (s : ByteArray) (z : Nat), i + d = l.length → s.size ≤ z → z + 50000 * d ≤ 2000000 → Ev (fun k => stowageref13_Encode.l0 k (l.map m36) s (i : Int)) (s ++ encL (l.drop i), 0)
 | 0, i, s, z, h, hs, hz => by
  have eL : ((l.map m36).length : Int) = (l.length : Int) := by rw [List.length_map]
  rw [List.drop_of_length_le (by omega), encL, app_nil]
  exact Ev.step (f := fun _ => some (s, 0)) (fun k => by rw [stowageref13_Encode.l0, eL, if_neg (by omega)]) (Ev.now _)
 | d + 1, i, s, z, h, hs, hz => by
  have eL : ((l.map m36).length : Int) = (l.length : Int) := by rw [List.length_map]
  have hi : i < l.length := by omega
  have hF := hf _ (mem_getD l i hi)
  have eg : l[i] = l.getD i z24 := by rw [List.getD_eq_getElem?_getD, List.getElem?_eq_getElem hi]; rfl
  have hG := renc_go l hl hf d (i + 1) (s ++ encV (l.getD i z24)) _ (by omega) (szapp hs (encV_size hF)) (by omega)
  have e : s ++ encL (l.drop i) = (s ++ encV (l.getD i z24)) ++ encL (l.drop (i + 1)) := by
   rw [List.drop_eq_getElem_cons hi, app_assoc, eg, encL]
  rw [e]
  have r1 : ∀ k, stowageref13_Encode.l0 (k + 1) (l.map m36) s (i : Int) = _ := fun k => by
   rw [stowageref13_Encode.l0, eL, if_pos (by omega), if_pos (by omega), rd36, getD_map36 l i hi, w1 i (by omega)]
  generalize l.getD i z24 = v at *
  have f1 := hF.id0
  have f2 := hF.id1
  have f3 := hF.len
  have z1 := numS_size v.f0.toNat
  have z4 := numS_size v.f4.length
  have hN := rnum_ev (n := (m36 v).f0) (show 0 ≤ v.f0 by omega) (show v.f0 < _ by omega)
  have hF1 := fits hs z1 (by omega)
  have y1 := szapp hs z1
  have o1 : (⟨#[1]⟩ : ByteArray).size ≤ 1 := Nat.le_refl _
  have o0 : (⟨#[0]⟩ : ByteArray).size ≤ 1 := Nat.le_refl _
  have hF2 := fits y1 o1 (by omega)
  by_cases hm : v.f1 = true
  ·rw [encV, if_pos hm, ← app_assoc, numS1] at hG
   rw [encV, if_pos hm, ← app_assoc s, numS1]
   refine Ev.step r1 (Ev.bind hN ?_)
   refine Ev.ifp hF1 ?_
   refine Ev.congr (fun k => if_pos hm) ?_
   exact Ev.ifp hF2 hG
  ·have zP := encP_size v.f4 (fun p hp => (hF.ids p hp).1)
   have zT := szapp z4 zP
   have y2 := szapp y1 o0
   have y3 := szapp y2 zT
   have zS := szapp (numS_size v.f3.size) hF.sum
   have hF3 := fits y2 zT (by omega)
   have hF4 := fits y3 zS (by omega)
   rw [encV, if_neg hm] at hG
   rw [encV, if_neg hm]
   refine Ev.step r1 (Ev.bind hN ?_)
   refine Ev.ifp hF1 ?_
   refine Ev.congr (fun k => if_neg hm) ?_
   refine Ev.ifp hF2 ?_
   refine Ev.bind (told_ev v.f4 f3 hF.ids) ?_
   refine Ev.ifp hF3 ?_
   refine Ev.bind (rtext_ev (s := (m36 v).f3) hF.sum) ?_
   refine Ev.ifp hF4 ?_
   have e3 : ((((s ++ numS v.f0.toNat) ++ (⟨#[0]⟩ : ByteArray)) ++ (numS v.f4.length ++ encP v.f4)) ++ (numS v.f3.size ++ v.f3)) = s ++ (numS v.f0.toNat ++ ((numS 0 ++ numS v.f4.length) ++ (encP v.f4 ++ (numS v.f3.size ++ v.f3)))) := by
    rw [← numS0]
    apply nb_inj
    simp only [nb_app, List.append_assoc]
   rw [← e3] at hG
   exact Ev.congr (fun k => rfl) (e3 ▸ hG)
theorem rencode_ev (l : List S24) (hl : l.length ≤ 2199023255551) (hok : ∀ v ∈ l, OkV v) : Ev (fun k => stowageref13_Encode.f k (l.map m36)) (encodeS l) := by
 unfold stowageref13_Encode.f encodeS
 refine Ev.bind (may36_ev l (by omega) hok) ?_
 by_cases hR : rightS l = true
 ·rw [if_pos hR, List.length_map]
  have h32 := (right_at hR).1
  have := renc_go l h32 (fun v hv => fine_of (right_mem hR hv)) l.length 0 (numS l.length) _ (by omega) (numS_size l.length) (by omega)
  rw [List.drop_zero] at this
  exact Ev.congr (fun k => if_pos hR) (Ev.bind (rnumL_ev (by omega)) this)
 ·rw [if_neg hR]
  exact Ev.congr (fun k => if_neg hR) (Ev.now _)
/-! reading -/
def dPieces (s : ByteArray) : Nat → Int → Int → List S72 × Int × Int
 | 0, a, e => ([], a, e)
 | n + 1, a, e => (⟨(pText s a e 64).1, (pNum s (pText s a e 64).2.1 (pText s a e 64).2.2 4096).1⟩ :: (dPieces s n (pNum s (pText s a e 64).2.1 (pText s a e 64).2.2 4096).2.1 (pNum s (pText s a e 64).2.1 (pText s a e 64).2.2 4096).2.2).1, (dPieces s n (pNum s (pText s a e 64).2.1 (pText s a e 64).2.2 4096).2.1 (pNum s (pText s a e 64).2.1 (pText s a e 64).2.2 4096).2.2).2)
structure Rd where
 v : S24
 a : Int
 e : Int
def dPlain (s : ByteArray) (id : Int) (a e : Int) : Rd :=
 let c := pNum s a e 512
 let p := dPieces s c.1.toNat c.2.1 c.2.2
 let t := pText s p.2.1 p.2.2 64
 ⟨⟨id, false, (piecesS p.1).1, t.1, p.1⟩, t.2.1, t.2.2⟩
def dVersion (s : ByteArray) (a e : Int) : Rd :=
 let i := pNum s a e 1099511627776
 let b := pBool s i.2.1 i.2.2
 if b.1 = true then ⟨⟨i.1, true, 0, ⟨#[]⟩, []⟩, b.2.1, b.2.2⟩ else dPlain s i.1 b.2.1 b.2.2
def dVersions (s : ByteArray) : Nat → Int → Int → List S24 × Int × Int
 | 0, a, e => ([], a, e)
 | n + 1, a, e => ((dVersion s a e).v :: (dVersions s n (dVersion s a e).a (dVersion s a e).e).1, (dVersions s n (dVersion s a e).a (dVersion s a e).e).2)
def finS (s : ByteArray) (l : List S24) (a e : Int) : List S24 × Int := if pEnd s a e = 0 then (if rightS l = true then (l, 0) else ([], 3)) else ([], 3)
def decodeS (s : ByteArray) : List S24 × Int :=
 let c := pNum s 0 0 32
 let r := dVersions s c.1.toNat c.2.1 c.2.2
 finS s r.1 r.2.1 r.2.2
theorem dPieces_ok (s : ByteArray) : ∀ (n : Nat) (a e : Int), (dPieces s n a e).1.length = n ∧ ∀ p ∈ (dPieces s n a e).1, p.f0.size ≤ 64
 | 0, a, e => by simp [dPieces]
 | n + 1, a, e => by
  have h := dPieces_ok s n (pNum s (pText s a e 64).2.1 (pText s a e 64).2.2 4096).2.1 (pNum s (pText s a e 64).2.1 (pText s a e 64).2.2 4096).2.2
  have hz := pText_size s a e 64 (by omega)
  rw [dPieces]
  refine ⟨by rw [List.length_cons, h.1], fun p hp => ?_⟩
  rcases List.mem_cons.1 hp with rfl | hp
  ·show (pText s a e 64).1.size ≤ 64; omega
  ·exact h.2 p hp
theorem dVersion_ok (s : ByteArray) (a e : Int) : OkV (dVersion s a e).v := by
 unfold dVersion
 simp only
 by_cases hb : (pBool s (pNum s a e 1099511627776).2.1 (pNum s a e 1099511627776).2.2).1 = true
 ·rw [if_pos hb]; exact ⟨Nat.zero_le _, by simp, by simp⟩
 ·rw [if_neg hb]
  unfold dPlain
  simp only
  generalize (pBool s (pNum s a e 1099511627776).2.1 (pNum s a e 1099511627776).2.2).2.1 = a1
  generalize (pBool s (pNum s a e 1099511627776).2.1 (pNum s a e 1099511627776).2.2).2.2 = e1
  have hr := pNum_range s a1 e1 512 (by omega)
  generalize pNum s a1 e1 512 = c at hr
  have hP := dPieces_ok s c.1.toNat c.2.1 c.2.2
  generalize dPieces s c.1.toNat c.2.1 c.2.2 = p at hP
  have hz := pText_size s p.2.1 p.2.2 64 (by omega)
  exact ⟨by show (pText s p.2.1 p.2.2 64).1.size ≤ _; omega, by show p.1.length ≤ _; omega, fun q hq => Nat.le_trans (hP.2 q hq) (by omega)⟩
theorem dVersions_ok (s : ByteArray) : ∀ (n : Nat) (a e : Int), (dVersions s n a e).1.length = n ∧ ∀ v ∈ (dVersions s n a e).1, OkV v
 | 0, a, e => by simp [dVersions]
 | n + 1, a, e => by
  have h := dVersions_ok s n (dVersion s a e).a (dVersion s a e).e
  rw [dVersions]
  refine ⟨by rw [List.length_cons, h.1], fun p hp => ?_⟩
  rcases List.mem_cons.1 hp with rfl | hp
  ·exact dVersion_ok s a e
  ·exact h.2 p hp
/-! both readers answer that -/
theorem dec_inner (s : ByteArray) (hs : s.size ≤ 140737488351232) (acc : List S24) (m i : Int) (cnt : Nat) (hcnt : cnt ≤ 512) (id : Int) (hacc : acc.length ≤ 32) (r : List S24 × Int) : ∀ (d j : Nat) (a e : Int) (ps : List S72), j + d = cnt → ps.length = j → (∀ p ∈ ps, p.f0.size ≤ 64) →
  Ev (fun k => chain_Decode.l0 k (acc ++ [⟨id, false, (piecesS (ps ++ (dPieces s d a e).1)).1, (pText s (dPieces s d a e).2.1 (dPieces s d a e).2.2 64).1, ps ++ (dPieces s d a e).1⟩]) m (wrap64 (i + 1)) s (pText s (dPieces s d a e).2.1 (dPieces s d a e).2.2 64).2.1 (pText s (dPieces s d a e).2.1 (dPieces s d a e).2.2 64).2.2) r →
  Ev (fun k => chain_Decode.l1 k acc m i (cnt : Int) (j : Int) s a e id false 0 ⟨#[]⟩ ps) r
 | 0, j, a, e, ps, h, hl, hz, hr => by
  rw [dPieces, List.append_nil] at hr
  have r1 : ∀ k, chain_Decode.l1 (k + 1) acc m i (cnt : Int) (j : Int) s a e id false 0 ⟨#[]⟩ ps = _ := fun k => by rw [chain_Decode.l1, if_neg (by omega)]
  refine Ev.step r1 (Ev.bind (oct_pText s hs a e 64) ?_)
  refine Ev.bind (pieces_ev ps (fun p hp => Nat.le_trans (hz p hp) (by omega))) ?_
  exact Ev.ifp (by omega) hr
 | d + 1, j, a, e, ps, h, hl, hz, hr => by
  have hT := pText_size s a e 64 (by omega)
  have hG := dec_inner s hs acc m i cnt hcnt id hacc r d (j + 1) (pNum s (pText s a e 64).2.1 (pText s a e 64).2.2 4096).2.1 (pNum s (pText s a e 64).2.1 (pText s a e 64).2.2 4096).2.2 (ps ++ [⟨(pText s a e 64).1, (pNum s (pText s a e 64).2.1 (pText s a e 64).2.2 4096).1⟩]) (by omega) (by rw [List.length_append, hl]; rfl) (fun p hp => by
   rcases List.mem_append.1 hp with hp | hp
   ·exact hz p hp
   ·rw [List.mem_singleton] at hp; rw [hp]; show (pText s a e 64).1.size ≤ 64; omega) (by rw [List.append_assoc]; rw [dPieces] at hr; exact hr)
  have r1 : ∀ k, chain_Decode.l1 (k + 1) acc m i (cnt : Int) (j : Int) s a e id false 0 ⟨#[]⟩ ps = _ := fun k => by rw [chain_Decode.l1, if_pos (by omega), w1 j (by omega)]
  refine Ev.step r1 (Ev.bind (oct_pText s hs a e 64) ?_)
  refine Ev.bind (oct_pInt s hs _ _ 4096 (by omega) (by omega)) ?_
  exact Ev.ifp (by omega) hG
theorem fin_ev (s : ByteArray) (l : List S24) (hl : l.length ≤ 32) (hok : ∀ v ∈ l, OkV v) (a e : Int) : Ev (fun k => (octet_Reader_End.f s a e).bind fun bt544 => (if bt544.1 = 0 then ((chain_right.f k l).bind fun t548 => (if t548 = true then (some (l, 0)) else (some (([] : List (S24)), 3)))) else (some (([] : List (S24)), 3)))) (finS s l a e) := by
 have hE : ∃ q : ByteArray × Int × Int, octet_Reader_End.f s a e = some (pEnd s a e, q) := by
  unfold octet_Reader_End.f pEnd
  by_cases he : e = 0
  ·rw [if_pos he, if_pos he]
   by_cases ha : a < (s.size : Int)
   ·rw [if_pos ha, if_pos ha]; exact ⟨_, rfl⟩
   ·rw [if_neg ha, if_neg ha]; exact ⟨_, rfl⟩
  ·rw [if_neg he, if_neg he]; exact ⟨_, rfl⟩
 obtain ⟨q, hq⟩ := hE
 rw [hq]
 unfold finS
 by_cases h0 : pEnd s a e = 0
 ·rw [if_pos h0]
  refine Ev.congr (f := fun k => (chain_right.f k l).bind fun t548 => (if t548 = true then (some (l, 0)) else (some (([] : List (S24)), 3)))) (fun k => by rw [Option.bind_some]; exact if_pos h0) (Ev.bind (right_ev l (by omega) hok) ?_)
  by_cases hR : rightS l = true
  ·simp only [if_pos hR]; exact Ev.now _
  ·simp only [if_neg hR]; exact Ev.now _
 ·rw [if_neg h0]
  exact Ev.congr (f := fun _ => some ([], 3)) (fun k => by rw [Option.bind_some]; exact if_neg h0) (Ev.now _)
theorem dec_go (s : ByteArray) (hs : s.size ≤ 140737488351232) (cnt : Nat) (hc : cnt ≤ 32) : ∀ (d i : Nat) (a e : Int) (acc : List S24), i + d = cnt → acc.length = i → (∀ v ∈ acc, OkV v) →
  Ev (fun k => chain_Decode.l0 k acc (cnt : Int) (i : Int) s a e) (finS s (acc ++ (dVersions s d a e).1) (dVersions s d a e).2.1 (dVersions s d a e).2.2)
 | 0, i, a, e, acc, h, hl, hok => by
  rw [dVersions, List.append_nil]
  have r1 : ∀ k, chain_Decode.l0 (k + 1) acc (cnt : Int) (i : Int) s a e = _ := fun k => by rw [chain_Decode.l0, if_neg (by omega)]
  exact Ev.step r1 (fin_ev s acc (by omega) hok a e)
 | d + 1, i, a, e, acc, h, hl, hok => by
  have hV := dVersion_ok s a e
  have hG := dec_go s hs cnt hc d (i + 1) (dVersion s a e).a (dVersion s a e).e (acc ++ [(dVersion s a e).v]) (by omega) (by rw [List.length_append, hl]; rfl) (fun v hv => by
   rcases List.mem_append.1 hv with hv | hv
   ·exact hok v hv
   ·rw [List.mem_singleton] at hv; rw [hv]; exact hV)
  rw [List.append_assoc] at hG
  rw [dVersions]
  have r1 : ∀ k, chain_Decode.l0 (k + 1) acc (cnt : Int) (i : Int) s a e = _ := fun k => by rw [chain_Decode.l0, if_pos (by omega)]
  refine Ev.step r1 (Ev.bind (oct_pInt s hs a e 1099511627776 (by omega) (by omega)) ?_)
  refine Ev.bind (oct_pBool s hs _ _) ?_
  revert hG
  show Ev (fun k => chain_Decode.l0 k (acc ++ [(dVersion s a e).v]) _ _ _ _ _) (finS s (acc ++ ((dVersion s a e).v :: _)) _ _) → Ev _ (finS s (acc ++ ((dVersion s a e).v :: _)) _ _)
  unfold dVersion
  simp only
  generalize pNum s a e 1099511627776 = q
  have hb1 : ∀ x : Bool × Int × Int, x.1 = true → (x.1, x.2) = (true, x.2) := fun x hx => by rw [hx]
  generalize pBool s q.2.1 q.2.2 = b
  obtain ⟨b1, b2, b3⟩ := b
  cases b1 with
  | true =>
   rw [if_pos rfl]
   intro hG
   refine Ev.congr (fun k => if_pos rfl) ?_
   refine Ev.ifp (by omega) ?_
   rw [w1 i (by omega)]
   exact hG
  | false =>
   rw [if_neg (by simp)]
   unfold dPlain
   simp only
   intro hG
   refine Ev.congr (fun k => if_neg (by simp)) ?_
   have hR := pNum_range s b2 b3 512 (by omega)
   refine Ev.bind (oct_pInt s hs b2 b3 512 (by omega) (by omega)) ?_
   generalize pNum s b2 b3 512 = c at hG hR
   obtain ⟨c1, c2, c3⟩ := c
   obtain ⟨n, rfl⟩ := Int.eq_ofNat_of_zero_le hR.1
   simp only [Int.toNat_natCast] at hG hR
   refine dec_inner s hs acc (cnt : Int) (i : Int) n (by omega) q.1 (by omega) _ n 0 c2 c3 [] (by omega) rfl (by simp) ?_
   rw [w1 i (by omega)]
   exact hG
theorem decode_ev (s : ByteArray) (hs : s.size ≤ 140737488351232) : Ev (fun k => chain_Decode.f k s) (decodeS s) := by
 have hR := pNum_range s 0 0 32 (by omega)
 have hI := oct_pInt s hs 0 0 32 (by omega) (by omega)
 unfold chain_Decode.f decodeS octet_NewReader.f
 simp only
 generalize pNum s 0 0 32 = c at hR hI
 obtain ⟨c1, c2, c3⟩ := c
 obtain ⟨n, rfl⟩ := Int.eq_ofNat_of_zero_le hR.1
 simp only [Int.toNat_natCast] at hI hR ⊢
 refine Ev.congr (f := fun k => (octet_Reader_Int.f k s 0 0 32).bind fun bt504 => chain_Decode.l0 k [] bt504.1 ((0 : Nat) : Int) bt504.2.1 bt504.2.2.1 bt504.2.2.2) (fun k => by rw [Option.bind_some]; rfl) (Ev.bind hI ?_)
 exact dec_go s hs n (by omega) n 0 c2 c3 [] (by omega) rfl (by simp)
theorem read_go (s : ByteArray) (hs : s.size ≤ 140737488351232) (cnt : Nat) (hcnt : cnt ≤ 512) : ∀ (d j : Nat) (a e : Int) (ps : List S72), j + d = cnt → ps.length = j →
  Ev (fun k => stowageref13_Read.l0 k (ps.map m74) (cnt : Int) (j : Int) s a e) (s, (dPieces s d a e).2.1, (dPieces s d a e).2.2, (ps ++ (dPieces s d a e).1).map m74)
 | 0, j, a, e, ps, h, hl => by
  rw [dPieces, List.append_nil]
  exact Ev.step (f := fun _ => some (s, a, e, ps.map m74)) (fun k => by rw [stowageref13_Read.l0, if_neg (by omega)]) (Ev.now _)
 | d + 1, j, a, e, ps, h, hl => by
  have hG := read_go s hs cnt hcnt d (j + 1) (pNum s (pText s a e 64).2.1 (pText s a e 64).2.2 4096).2.1 (pNum s (pText s a e 64).2.1 (pText s a e 64).2.2 4096).2.2 (ps ++ [⟨(pText s a e 64).1, (pNum s (pText s a e 64).2.1 (pText s a e 64).2.2 4096).1⟩]) (by omega) (by rw [List.length_append, hl]; rfl)
  rw [List.append_assoc, List.map_append (l₁ := ps)] at hG
  rw [dPieces]
  have r1 : ∀ k, stowageref13_Read.l0 (k + 1) (ps.map m74) (cnt : Int) (j : Int) s a e = _ := fun k => by rw [stowageref13_Read.l0, if_pos (by omega), w1 j (by omega)]
  refine Ev.step r1 (Ev.bind (ref_pText s hs a e 64) ?_)
  refine Ev.bind (ref_pInt s hs _ _ 4096 (by omega) (by omega)) ?_
  exact Ev.ifp (by rw [List.length_map]; omega) hG
theorem rfin_ev (s : ByteArray) (l : List S24) (hl : l.length ≤ 32) (hok : ∀ v ∈ l, OkV v) (a e : Int) : Ev (fun k => (stowageref01_Reader_End.f s a e).bind fun bt637 => (if bt637.2.2 = 0 then ((stowageref13_May.f k (l.map m36)).bind fun t640 => (if t640 = true then (some (l.map m36, 0)) else (some (([] : List (S36)), 3)))) else (some (([] : List (S36)), 3)))) ((finS s l a e).1.map m36, (finS s l a e).2) := by
 have hE : ∃ q r, stowageref01_Reader_End.f s a e = some (q, r, pEnd s a e) := by
  unfold stowageref01_Reader_End.f pEnd
  by_cases he : e = 0
  ·rw [if_pos he, if_pos he]
   by_cases ha : a < (s.size : Int)
   ·rw [if_pos ha, if_pos ha]; exact ⟨_, _, rfl⟩
   ·rw [if_neg ha, if_neg ha]; exact ⟨_, _, rfl⟩
  ·rw [if_neg he, if_neg he]; exact ⟨_, _, rfl⟩
 obtain ⟨q, r, hq⟩ := hE
 rw [hq]
 unfold finS
 by_cases h0 : pEnd s a e = 0
 ·rw [if_pos h0]
  refine Ev.congr (f := fun k => (stowageref13_May.f k (l.map m36)).bind fun t640 => (if t640 = true then (some (l.map m36, 0)) else (some (([] : List (S36)), 3)))) (fun k => by rw [Option.bind_some]; exact if_pos h0) (Ev.bind (may36_ev l (by omega) hok) ?_)
  by_cases hR : rightS l = true
  ·simp only [if_pos hR]; exact Ev.now _
  ·simp only [if_neg hR]; exact Ev.now _
 ·rw [if_neg h0]
  exact Ev.congr (f := fun _ => some ([], 3)) (fun k => by rw [Option.bind_some]; exact if_neg h0) (Ev.now _)
theorem rdec_go (s : ByteArray) (hs : s.size ≤ 140737488351232) (cnt : Nat) (hc : cnt ≤ 32) : ∀ (d i : Nat) (a e : Int) (acc : List S24), i + d = cnt → acc.length = i → (∀ v ∈ acc, OkV v) →
  Ev (fun k => stowageref13_Decode.l0 k (cnt : Int) (acc.map m36) (i : Int) s a e) ((finS s (acc ++ (dVersions s d a e).1) (dVersions s d a e).2.1 (dVersions s d a e).2.2).1.map m36, (finS s (acc ++ (dVersions s d a e).1) (dVersions s d a e).2.1 (dVersions s d a e).2.2).2)
 | 0, i, a, e, acc, h, hl, hok => by
  rw [dVersions, List.append_nil]
  have r1 : ∀ k, stowageref13_Decode.l0 (k + 1) (cnt : Int) (acc.map m36) (i : Int) s a e = _ := fun k => by rw [stowageref13_Decode.l0, if_neg (by omega)]
  exact Ev.step r1 (rfin_ev s acc (by omega) hok a e)
 | d + 1, i, a, e, acc, h, hl, hok => by
  have hV := dVersion_ok s a e
  have hG := rdec_go s hs cnt hc d (i + 1) (dVersion s a e).a (dVersion s a e).e (acc ++ [(dVersion s a e).v]) (by omega) (by rw [List.length_append, hl]; rfl) (fun v hv => by
   rcases List.mem_append.1 hv with hv | hv
   ·exact hok v hv
   ·rw [List.mem_singleton] at hv; rw [hv]; exact hV)
  rw [List.append_assoc, List.map_append] at hG
  rw [dVersions]
  have r1 : ∀ k, stowageref13_Decode.l0 (k + 1) (cnt : Int) (acc.map m36) (i : Int) s a e = _ := fun k => by rw [stowageref13_Decode.l0, if_pos (by omega)]
  refine Ev.step r1 (Ev.bind (ref_pInt s hs a e 1099511627776 (by omega) (by omega)) ?_)
  refine Ev.bind (ref_pBool s hs _ _) ?_
  have hln : (acc.map m36).length < 2199023255552 := by rw [List.length_map]; omega
  revert hG
  show Ev (fun k => stowageref13_Decode.l0 k _ (acc.map m36 ++ [m36 (dVersion s a e).v]) _ _ _ _) ((finS s (acc ++ ((dVersion s a e).v :: _)) _ _).1.map m36, (finS s (acc ++ ((dVersion s a e).v :: _)) _ _).2) → Ev _ ((finS s (acc ++ ((dVersion s a e).v :: _)) _ _).1.map m36, (finS s (acc ++ ((dVersion s a e).v :: _)) _ _).2)
  unfold dVersion
  simp only
  generalize pNum s a e 1099511627776 = q
  generalize pBool s q.2.1 q.2.2 = b
  obtain ⟨b1, b2, b3⟩ := b
  cases b1 with
  | true =>
   rw [if_pos rfl]
   intro hG
   refine Ev.congr (fun k => if_pos rfl) ?_
   refine Ev.ifp hln ?_
   rw [w1 i (by omega)]
   exact hG
  | false =>
   rw [if_neg (by simp)]
   unfold dPlain
   simp only
   intro hG
   refine Ev.congr (fun k => if_neg (by simp)) ?_
   have hR := pNum_range s b2 b3 512 (by omega)
   have hI := ref_pInt s hs b2 b3 512 (by omega) (by omega)
   generalize pNum s b2 b3 512 = c at hG hR hI
   obtain ⟨c1, c2, c3⟩ := c
   obtain ⟨n, rfl⟩ := Int.eq_ofNat_of_zero_le hR.1
   simp only [Int.toNat_natCast] at hG hR hI
   have hP := dPieces_ok s n c2 c3
   have hRd : Ev (fun k => stowageref13_Read.f k s b2 b3) (s, (dPieces s n c2 c3).2.1, (dPieces s n c2 c3).2.2, (dPieces s n c2 c3).1.map m74) := by
    unfold stowageref13_Read.f
    refine Ev.bind hI ?_
    exact read_go s hs n (by omega) n 0 c2 c3 [] (by omega) rfl
   refine Ev.bind hRd ?_
   refine Ev.bind (ref_pText s hs _ _ 64) ?_
   have hPi := pieces74_ev ((dPieces s n c2 c3).1.map m74) (by rw [List.length_map]; omega) (map74_ids _ (fun p hp => Nat.le_trans (hP.2 p hp) (by omega)))
   rw [pieces_m] at hPi
   refine Ev.bind hPi ?_
   refine Ev.ifp hln ?_
   rw [w1 i (by omega)]
   exact hG
theorem rdecode_ev (s : ByteArray) (hs : s.size ≤ 140737488351232) : Ev (fun k => stowageref13_Decode.f k s) ((decodeS s).1.map m36, (decodeS s).2) := by
 have hR := pNum_range s 0 0 32 (by omega)
 have hI := ref_pInt s hs 0 0 32 (by omega) (by omega)
 unfold stowageref13_Decode.f decodeS
 simp only
 generalize pNum s 0 0 32 = c at hR hI
 obtain ⟨c1, c2, c3⟩ := c
 obtain ⟨n, rfl⟩ := Int.eq_ofNat_of_zero_le hR.1
 simp only [Int.toNat_natCast] at hI hR ⊢
 refine Ev.bind hI ?_
 exact rdec_go s hs n (by omega) n 0 c2 c3 [] (by omega) rfl (by simp)
theorem decodeS_ok (s : ByteArray) : (decodeS s).1.length ≤ 32 ∧ ∀ v ∈ (decodeS s).1, OkV v := by
 unfold decodeS
 simp only
 have hR := pNum_range s 0 0 32 (by omega)
 generalize pNum s 0 0 32 = c at hR
 have hV := dVersions_ok s c.1.toNat c.2.1 c.2.2
 generalize dVersions s c.1.toNat c.2.1 c.2.2 = r at hV
 unfold finS
 split
 ·split
  ·exact ⟨by show r.1.length ≤ 32; omega, hV.2⟩
  ·simp
 ·simp
end Go.Proofs.Ytmpnaaegahjfkaa.Q