
/- What package chain reads and writes as bytes, in plain Lean, and that the program and the reference answer it. -/
import Derived.Test.YtmpnaaegahjfkaaPc
import Derived.Test.YtmpnaaegahjfkaaQx19
import Derived.Test.YtmpnaaegahjfkaaQx20
import Derived.Test.YtmpnaaegahjfkaaQx21
import Derived.Test.YtmpnaaegahjfkaaQx22
import Derived.Test.YtmpnaaegahjfkaaQx23
import Derived.Test.YtmpnaaegahjfkaaQx24
namespace Go.Proofs.Ytmpnaaegahjfkaa.Q
open Go.RowKit Go.Proofs.YtmpnaaegahjfkaaW.PrintWords Go.Proofs.YtmpnaaegahjfkaaW.PrintLast Go.Proofs.YtmpnaaegahjfkaaW.PrintMore
set_option linter.unusedVariables false
set_option linter.unusedSimpArgs false
/-! numbers and texts as bytes (after package octet) -/
def nb (s : ByteArray) : List Nat := s.data.toList.map UInt8.toNat
theorem nb_len (s : ByteArray) : (nb s).length = s.size := by simp [nb]
theorem nb_app (a b : ByteArray) : nb (a ++ b) = nb a ++ nb b := by simp [nb, ByteArray.data_append]
theorem nb_bt (s : ByteArray) (i : Nat) (h : i < s.size) : (nb s).drop i = (bt s i).toNat :: (nb s).drop (i + 1) := by
  have h' : i < (nb s).length := by rw [nb_len]; exact h
  rw [List.drop_eq_getElem_cons h']
  congr 1
  unfold bt
  rw [dif_pos (by simpa using h)]
  simp only [nb, List.getElem_map, Int.toNat_natCast, Array.getElem_toList]
  rfl
theorem nb_inj {a b : ByteArray} (h : nb a = nb b) : a = b := by
  apply ByteArray.ext
  apply Array.toList_inj.1
  exact (List.map_inj_right (f := UInt8.toNat) (fun x y hxy => UInt8.toNat_inj.1 hxy)).1 h
theorem nb_extract (s : ByteArray) (a b : Nat) : nb (s.extract a b) = ((nb s).drop a).take (b - a) := by
  simp [nb, ByteArray.data_extract, List.map_take, List.map_drop, List.extract_eq_take_drop]
theorem nb_strOf (l : List Int) (h : ∀ x ∈ l, 0 ≤ x ∧ x < 256) : nb (strOfNums l) = l.map Int.toNat := by
  simp only [nb, strOfNums, List.map_map]
  apply List.map_congr_left
  intro x hx
  have := h x hx
  simp only [Function.comp, UInt8.toNat_ofNat']
  omega

/-- what ReadNumber answers, from the i-th byte on -/
def rnum (s : ByteArray) (p : Nat) : Nat → Nat → Nat → Int × Int × Int
  | 0, _, _ => (0, 0, 3)
  | d + 1, i, n =>
    if (p + i : Nat) ≥ s.size then (0, 0, 5)
    else if (i = 9 ∧ 1 < bt s (p + i : Nat)) ∨ (0 < i ∧ bt s (p + i : Nat) = 0) then (0, 0, 3)
    else if bt s (p + i : Nat) < 128 then (((n + (bt s (p + i : Nat)).toNat % 128 * 128 ^ i : Nat) : Int), ((p + i + 1 : Nat) : Int), 0)
    else rnum s p d (i + 1) (n + (bt s (p + i : Nat)).toNat % 128 * 128 ^ i)

theorem wraps_u64 (j : Nat) (hj : j ≤ 64) (n : Int) (h₀ : 0 ≤ n) (h₁ : n < 2 ^ j) : IntKind.u64.wrap n = n := by
  apply IntWalk.u64_in
  have : (2:Int) ^ j ≤ 2 ^ 64 := by exact_mod_cast Nat.pow_le_pow_right (by decide) hj
  omega
theorem and127 (b : Int) (h0 : 0 ≤ b) (h1 : b ≤ 255) : Go.bits .and .u8 b 127 = b % 128 :=
  bits_mask .u8 8 (by decide) wraps_u8 7 (by decide) b h0 (by omega)
theorem or_low (n m i : Nat) (hn : n < 2 ^ i) (hm : m % 2 ^ i = 0) (hm1 : m < 2 ^ 64) (hn1 : n < 2 ^ 64) : Go.bits .or .u64 (n : Int) (m : Int) = ((n + m : Nat) : Int) := by
  rw [(bits_nat .u64 64 (by decide) (wraps_u64 64 (by decide)) n m hn1 hm1).2, Nat.or_comm]
  have hq : m = 2 ^ i * (m / 2 ^ i) := by have := Nat.div_add_mod m (2 ^ i); omega
  rw [hq, ← Nat.two_pow_add_eq_or_of_lt hn (m / 2 ^ i), ← hq, Nat.add_comm]
theorem pow128 (i : Nat) : 128 ^ i = 2 ^ (7 * i) := by rw [show (128:Nat) = 2 ^ 7 from rfl, ← Nat.pow_mul]
theorem piece_lt (i : Nat) (hi : i ≤ 9) (c : Nat) (hc : c < 128) (h9 : i = 9 → c ≤ 1) : c * 128 ^ i < 2 ^ 64 := by
  by_cases h : i = 9
  · subst h; have := h9 rfl; omega
  · have h2 : 128 ^ i ≤ 128 ^ 8 := Nat.pow_le_pow_right (by decide) (by omega)
    have : c * 128 ^ i ≤ 127 * 128 ^ 8 := Nat.mul_le_mul (by omega) h2
    omega
theorem low_lt (i n : Nat) (hi : i ≤ 9) (hn : n < 128 ^ i) : n < 2 ^ 63 := by
  have h2 : 128 ^ i ≤ 128 ^ 9 := Nat.pow_le_pow_right (by decide) hi
  omega
/-- the step of a reading -/
theorem or_shl (i n : Nat) (hi : i ≤ 9) (hn : n < 128 ^ i) (b : Int) (h0 : 0 ≤ b) (h1 : b ≤ 255) (h9 : i = 9 → b ≤ 1) :
    Go.bits .or .u64 (n : Int) (shl .u64 (IntKind.u64.wrap (Go.bits .and .u8 b 127)) (wrap64 (7 * (i : Int)))) = ((n + b.toNat % 128 * 128 ^ i : Nat) : Int) := by
  obtain ⟨b, rfl⟩ := Int.eq_ofNat_of_zero_le h0
  rw [and127 _ h0 h1, IntWalk.u64_in _ (by omega), IntWalk.wrap64_in _ (by omega)]
  have hp := piece_lt i hi (b % 128) (by omega) (by omega)
  have e : shl .u64 ((b : Int) % 128) (7 * (i : Int)) = ((b % 128 * 128 ^ i : Nat) : Int) := by
    unfold shl
    rw [show min (7 * (i : Int)).toNat IntKind.u64.bits = 7 * i from by simp [IntKind.bits]; omega]
    have : ((b : Int) % 128) * 2 ^ (7 * i) = ((b % 128 * 128 ^ i : Nat) : Int) := by rw [pow128]; simp
    rw [this]
    exact wraps_u64 64 (by decide) _ (by omega) (by exact_mod_cast hp)
  rw [e, Int.toNat_natCast]
  have := low_lt i n hi hn
  exact or_low n _ (7 * i) (by rw [← pow128]; exact hn) (by rw [← pow128]; exact Nat.mul_mod_left _ _) hp (by omega)
def readNum (s : ByteArray) (at' : Int) : Int × Int × Int := if at' < 0 ∨ (s.size : Int) < at' then (0, 0, 1) else rnum s at'.toNat 10 0 0

theorem oct_l0 (s : ByteArray) (hs : s.size ≤ 140737488351232) (p : Nat) (hp : p ≤ s.size) : ∀ (d i n : Nat), d + i = 10 → i ≤ 9 → n < 128 ^ i → ∀ k, 2 * d ≤ k →
    octet_ReadNumber.l0 k s p n i = some (rnum s p d i n) := by
  intro d
  induction d with
  | zero => intro i n h1 h2; omega
  | succ d ih =>
    intro i n hd hi hn k hk
    obtain ⟨k, rfl⟩ : ∃ m, k = m + 2 := ⟨k - 2, by omega⟩
    have hw : wrap64 ((p : Int) + (i : Int)) = ((p + i : Nat) : Int) := by rw [IntWalk.wrap64_in _ (by omega)]; omega
    simp only [octet_ReadNumber.l0, hw, rnum]
    rw [if_pos (by omega)]
    by_cases h1 : (p + i) ≥ s.size
    · rw [if_pos (by omega), if_pos h1]
    · rw [if_neg (by omega), if_neg h1, if_pos (by omega), if_pos (by omega)]
      obtain ⟨hb0, hb1⟩ := bt_range s ((p + i : Nat) : Int)
      generalize bt s ((p + i : Nat) : Int) = b at *
      have key : ∀ c : Bool, (c = true ↔ ((i = 9 ∧ 1 < b) ∨ (0 < i ∧ b = 0))) → octet_ReadNumber.j2 (k + 1) s p n i b i c = some (if (i = 9 ∧ 1 < b) ∨ (0 < i ∧ b = 0) then (0, 0, 3) else if b < 128 then (((n + b.toNat % 128 * 128 ^ i : Nat) : Int), ((p + i + 1 : Nat) : Int), 0) else rnum s p d (i + 1) (n + b.toNat % 128 * 128 ^ i)) := by
        intro c hc
        simp only [octet_ReadNumber.j2]
        by_cases hC : (i = 9 ∧ 1 < b) ∨ (0 < i ∧ b = 0)
        · rw [if_pos (hc.2 hC), if_pos hC]
        · rw [if_neg (fun h => hC (hc.1 h)), if_neg hC]
          rw [if_pos (by rw [IntWalk.wrap64_in _ (by omega)]; omega)]
          rw [or_shl i n hi hn b hb0 hb1 (by omega)]
          by_cases h128 : b < 128
          · rw [if_pos h128, if_pos h128, hw, IntWalk.wrap64_in _ (by omega)]
            simp
          · rw [if_neg h128, if_neg h128]
            have hi' : i ≤ 8 := by omega
            have e1 : wrap64 ((i : Int) + 1) = ((i + 1 : Nat) : Int) := by rw [IntWalk.wrap64_in _ (by omega)]; omega
            rw [e1]
            refine ih (i + 1) _ (by omega) (by omega) ?_ k (by omega)
            have h2 : b.toNat % 128 * 128 ^ i ≤ 127 * 128 ^ i := Nat.mul_le_mul_right _ (by omega)
            rw [Nat.pow_succ]; omega
      by_cases h9 : i = 9
      · rw [if_pos (by omega)]
        by_cases hb : b > 1
        · rw [if_pos hb]; exact key true (by simp; omega)
        · rw [if_neg hb, if_pos (by omega)]; exact key _ (by rw [beq_iff_eq]; omega)
      · rw [if_neg (by omega)]
        by_cases h0 : i > 0
        · rw [if_pos (by omega)]; exact key _ (by rw [beq_iff_eq]; omega)
        · rw [if_neg (by omega)]; exact key _ (by simp; omega)

theorem oct_read (s : ByteArray) (hs : s.size ≤ 140737488351232) (a : Int) (k : Nat) (hk : 21 ≤ k) : octet_ReadNumber.f k s a = some (readNum s a) := by
  obtain ⟨k, rfl⟩ : ∃ m, k = m + 1 := ⟨k - 1, by omega⟩
  unfold octet_ReadNumber.f readNum
  by_cases h : a < 0
  · rw [if_pos h, if_pos (.inl h)]; simp [octet_ReadNumber.j0]
  · rw [if_neg h]
    by_cases h2 : (s.size : Int) < a
    · rw [if_pos (.inr h2)]; simp [octet_ReadNumber.j0, h2]
    · rw [if_neg (by omega)]
      simp only [octet_ReadNumber.j0]
      rw [if_neg (by simp; omega)]
      obtain ⟨p, rfl⟩ := Int.eq_ofNat_of_zero_le (show 0 ≤ a by omega)
      exact oct_l0 s hs p (by omega) 10 0 0 rfl (by omega) (by decide) k (by omega)

/-- the bytes of a number -/
def encN : Nat → Nat → List Int
  | 0, _ => []
  | d + 1, n => if n < 128 then [(n : Int)] else ((n % 128 + 128 : Nat) : Int) :: encN d (n / 128)
def numS (n : Nat) : ByteArray := strOfNums (encN 10 n)
theorem encN_len : ∀ d n, (encN d n).length ≤ d := by
  intro d
  induction d with
  | zero => intro n; simp [encN]
  | succ d ih => intro n; simp only [encN]; split; simp; have := ih (n / 128); simp; omega
theorem or128 : ∀ m : Nat, m < 256 → m ||| 128 = m % 128 + 128 := by decide +kernel
theorem bits_or128 (x : Nat) : Go.bits .or .u8 (((x : Int)) % 256) 128 = ((x % 128 + 128 : Nat) : Int) := by
  have h := (bits_nat .u8 8 (by decide) wraps_u8 (x % 256) 128 (by omega) (by decide)).2
  have e : ((x : Int)) % 256 = ((x % 256 : Nat) : Int) := by omega
  rw [e, show (128 : Int) = ((128 : Nat) : Int) from rfl, h, or128 _ (by omega), show x % 256 % 128 = x % 128 by omega]
theorem oct_num_l0 : ∀ d x : Nat, x < 128 ^ d → 0 < d → ∀ (acc : List Int) (k : Nat), acc.length + d ≤ 100 → d ≤ k → octet_Number.l0 k x acc = some (strOfNums (acc ++ encN d x)) := by
  intro d
  induction d with
  | zero => intro x _ h; omega
  | succ d ih =>
    intro x hx _ acc k hacc hk
    obtain ⟨k, rfl⟩ : ∃ m, k = m + 1 := ⟨k - 1, by omega⟩
    simp only [octet_Number.l0, encN]
    by_cases h : x < 128
    · rw [if_neg (by omega), if_pos (by omega), if_pos h, show (x : Int) % 256 = x by omega]
    · rw [if_pos (by omega), if_pos (by omega), if_neg h, bits_or128]
      have hd : 0 < d := by
        rcases Nat.eq_zero_or_pos d with h0 | h0
        · subst h0; simp at hx; omega
        · exact h0
      rw [show (x : Int) / 128 = ((x / 128 : Nat) : Int) by omega]
      rw [ih (x / 128) (by rw [Nat.pow_succ] at hx; exact Nat.div_lt_of_lt_mul (by omega)) hd _ k (by simp; omega) (by omega)]
      simp
theorem oct_num (x : Nat) (hx : x < 2 ^ 64) (k : Nat) (hk : 10 ≤ k) : octet_Number.f k x = some (numS x) := by
  unfold octet_Number.f numS
  rw [oct_num_l0 10 x (by omega) (by omega) [] k (by simp) hk]; simp
theorem numS_size (n : Nat) : (numS n).size ≤ 10 := by unfold numS; rw [strOfNums_size]; exact encN_len 10 n

/-- what is known of a number that was read -/
theorem rnum_ok (s : ByteArray) (p : Nat) : ∀ (d i n : Nat), d + i = 10 → n < 128 ^ i → (rnum s p d i n).2.2 = 0 →
    0 ≤ (rnum s p d i n).1 ∧ (rnum s p d i n).1 < 2 ^ 64 ∧ (p + i : Nat) < (rnum s p d i n).2.1 ∧ (rnum s p d i n).2.1 ≤ s.size := by
  intro d
  induction d with
  | zero => intro i n _ _ h; simp [rnum] at h
  | succ d ih =>
    intro i n hd hn
    simp only [rnum]
    by_cases h1 : (p + i) ≥ s.size
    · rw [if_pos h1]; intro h; simp at h
    · rw [if_neg h1]
      obtain ⟨hb0, hb1⟩ := bt_range s ((p + i : Nat) : Int)
      generalize bt s ((p + i : Nat) : Int) = b at *
      by_cases hC : (i = 9 ∧ 1 < b) ∨ (0 < i ∧ b = 0)
      · rw [if_pos hC]; intro h; simp at h
      · rw [if_neg hC]
        have hi : i ≤ 9 := by omega
        have hp := piece_lt i hi (b.toNat % 128) (by omega) (by omega)
        by_cases h128 : b < 128
        · rw [if_pos h128]
          intro _
          refine ⟨Int.natCast_nonneg _, ?_, by show ((p + i : Nat) : Int) < ((p + i + 1 : Nat) : Int); omega, by show ((p + i + 1 : Nat) : Int) ≤ _; omega⟩
          show ((n + b.toNat % 128 * 128 ^ i : Nat) : Int) < 2 ^ 64
          by_cases h9 : i = 9
          · subst h9
            have : b.toNat % 128 * 128 ^ 9 ≤ 1 * 128 ^ 9 := Nat.mul_le_mul_right _ (by omega)
            omega
          · have hp8 : 128 ^ i ≤ 128 ^ 8 := Nat.pow_le_pow_right (by decide) (by omega)
            have : b.toNat % 128 * 128 ^ i ≤ 127 * 128 ^ 8 := Nat.mul_le_mul (by omega) hp8
            omega
        · rw [if_neg h128]
          intro h
          have h2 : b.toNat % 128 * 128 ^ i ≤ 127 * 128 ^ i := Nat.mul_le_mul_right _ (by omega)
          obtain ⟨g1, g2, g3, g4⟩ := ih (i + 1) _ (by omega) (by rw [Nat.pow_succ]; omega) h
          exact ⟨g1, g2, by omega, g4⟩
theorem readNum_ok {s : ByteArray} {a : Int} (h : (readNum s a).2.2 = 0) : 0 ≤ a ∧ a < (readNum s a).2.1 ∧ (readNum s a).2.1 ≤ s.size ∧ 0 ≤ (readNum s a).1 ∧ (readNum s a).1 < 2 ^ 64 := by
  unfold readNum at h ⊢
  by_cases hC : a < 0 ∨ (s.size : Int) < a
  · rw [if_pos hC] at h; simp at h
  · rw [if_neg hC] at h ⊢
    obtain ⟨p, rfl⟩ := Int.eq_ofNat_of_zero_le (show 0 ≤ a by omega)
    obtain ⟨g1, g2, g3, g4⟩ := rnum_ok s (p : Int).toNat 10 0 0 rfl (by decide) h
    exact ⟨by omega, by simpa using g3, g4, g1, g2⟩

def readText (s : ByteArray) (a : Int) : ByteArray × Int × Int :=
  let r := readNum s a
  if r.2.2 = 0 then (if r.1 > (s.size : Int) - r.2.1 then (⟨#[]⟩, 0, 5) else (s.extract r.2.1.toNat (r.2.1 + r.1).toNat, r.2.1 + r.1, 0)) else (⟨#[]⟩, 0, r.2.2)

theorem oct_readText (s : ByteArray) (hs : s.size ≤ 140737488351232) (a : Int) (k : Nat) (hk : 21 ≤ k) : octet_ReadText.f k s a = some (readText s a) := by
  unfold octet_ReadText.f
  rw [oct_read s hs a k hk]
  simp only [Option.bind_some]
  unfold readText
  have H := @readNum_ok s a
  generalize readNum s a = r at *
  obtain ⟨n, q, e⟩ := r
  simp only at *
  by_cases he : e = 0
  · rw [if_pos he, if_pos he]
    obtain ⟨h1, h2, h3, h4, h5⟩ := H he
    have w1 : IntKind.u64.wrap (wrap64 ((s.size : Int) - q)) = (s.size : Int) - q := by
      rw [IntWalk.wrap64_in _ (by omega), IntWalk.u64_in _ (by omega)]
    rw [w1]
    by_cases hn : n > (s.size : Int) - q
    · rw [if_pos hn, if_pos hn]
    · rw [if_neg hn, if_neg hn]
      have w2 : wrap64 n = n := IntWalk.wrap64_in _ (by omega)
      have w3 : wrap64 (q + n) = q + n := IntWalk.wrap64_in _ (by omega)
      rw [w2, w3, if_pos (by omega), if_pos (by omega), if_pos (by omega)]
  · rw [if_neg he, if_neg he]
theorem oct_text (s : ByteArray) (hs : s.size ≤ 140737488351232) (k : Nat) (hk : 21 ≤ k) : octet_Text.f k s = some (numS s.size ++ s) := by
  unfold octet_Text.f
  rw [IntWalk.u64_in _ (by omega), oct_num _ (by omega) k (by omega)]
  simp only [Option.bind_some]
  have := numS_size s.size
  rw [if_pos (by omega)]
/-- a number's bytes are read as it -/
theorem rnum_enc (s : ByteArray) (p : Nat) : ∀ (d i m acc : Nat) (rest : List Nat), d + i = 10 → m < 128 ^ d → (0 < i → 0 < m) → acc + m * 128 ^ i < 2 ^ 64 → (nb s).drop (p + i) = (encN d m).map Int.toNat ++ rest → 0 < d →
    rnum s p d i acc = (((acc + m * 128 ^ i : Nat) : Int), ((p + i + (encN d m).length : Nat) : Int), 0) := by
  intro d
  induction d with
  | zero => intro i m acc rest _ _ _ _ _ h; omega
  | succ d ih =>
    intro i m acc rest hd hm hi0 hlt hs _
    have hlen : p + i < s.size := by
      have := congrArg List.length hs
      rw [List.length_drop, nb_len, List.length_append, List.length_map] at this
      have h1 : 0 < (encN (d + 1) m).length := by simp only [encN]; split <;> simp
      omega
    have hb := nb_bt s (p + i) hlen
    rw [hs] at hb
    simp only [rnum]
    rw [if_neg (by omega)]
    by_cases h128 : m < 128
    · have e : encN (d + 1) m = [(m : Int)] := by simp only [encN]; rw [if_pos h128]
      rw [e] at hb ⊢
      simp only [List.map_cons, List.map_nil, List.cons_append, List.nil_append, List.cons.injEq, Int.toNat_natCast] at hb
      have hbr := bt_range s ((p + i : Nat) : Int)
      have hbm : bt s ((p + i : Nat) : Int) = (m : Int) := by omega
      rw [hbm]
      have h9 : i = 9 → m ≤ 1 := by rintro rfl; omega
      rw [if_neg (by omega), if_pos (by omega), Int.toNat_natCast, Nat.mod_eq_of_lt h128]
      rfl
    · have e : encN (d + 1) m = ((m % 128 + 128 : Nat) : Int) :: encN d (m / 128) := by simp only [encN]; rw [if_neg h128]
      rw [e] at hb ⊢
      simp only [List.map_cons, List.cons_append, List.cons.injEq, Int.toNat_natCast] at hb
      have hbr := bt_range s ((p + i : Nat) : Int)
      have hbm : bt s ((p + i : Nat) : Int) = ((m % 128 + 128 : Nat) : Int) := by omega
      have hd0 : 0 < d := by
        rcases Nat.eq_zero_or_pos d with h0 | h0
        · subst h0; simp at hm; omega
        · exact h0
      rw [hbm]
      rw [if_neg (by omega), if_neg (by omega), Int.toNat_natCast]
      have hsplit : m * 128 ^ i = m % 128 * 128 ^ i + m / 128 * 128 ^ (i + 1) := by
        rw [Nat.pow_succ, Nat.mul_comm (128 ^ i) 128, ← Nat.mul_assoc, ← Nat.add_mul]
        congr 1; omega
      rw [show (m % 128 + 128) % 128 = m % 128 by omega]
      have hs2 : (nb s).drop (p + (i + 1)) = (encN d (m / 128)).map Int.toNat ++ rest := by rw [show p + (i + 1) = p + i + 1 by omega]; exact hb.2.symm
      rw [ih (i + 1) (m / 128) (acc + m % 128 * 128 ^ i) rest (by omega) (by rw [Nat.pow_succ] at hm; exact Nat.div_lt_of_lt_mul (by omega)) (by omega) (by omega) hs2 hd0]
      rw [List.length_cons, hsplit, show acc + m % 128 * 128 ^ i + m / 128 * 128 ^ (i + 1) = acc + (m % 128 * 128 ^ i + m / 128 * 128 ^ (i + 1)) by omega, show p + (i + 1) + (encN d (m / 128)).length = p + i + ((encN d (m / 128)).length + 1) by omega]
theorem encN_range : ∀ d n, ∀ x ∈ encN d n, 0 ≤ x ∧ x < 256 := by
  intro d
  induction d with
  | zero => intro n x hx; cases hx
  | succ d ih =>
    intro n x hx
    simp only [encN] at hx
    split at hx
    · simp only [List.mem_singleton] at hx; omega
    · rcases List.mem_cons.1 hx with rfl | hx
      · omega
      · exact ih _ x hx
theorem nb_numS (n : Nat) : nb (numS n) = (encN 10 n).map Int.toNat := nb_strOf _ (encN_range 10 n)
theorem numS_len (n : Nat) : (numS n).size = (encN 10 n).length := by unfold numS; rw [strOfNums_size]
theorem readNum_at (s : ByteArray) (p n : Nat) (rest : List Nat) (hp : p ≤ s.size) (hn : n < 2 ^ 64) (h : (nb s).drop p = nb (numS n) ++ rest) : readNum s p = ((n : Int), ((p + (numS n).size : Nat) : Int), 0) := by
  unfold readNum
  rw [if_neg (by omega), Int.toNat_natCast, rnum_enc s p 10 0 n 0 rest rfl (by omega) (by omega) (by omega) (by rw [Nat.add_zero, h, nb_numS]) (by omega), numS_len]
  simp
theorem readText_at (s x : ByteArray) (p : Nat) (rest : List Nat) (hp : p ≤ s.size) (hx : x.size < 2 ^ 60) (h : (nb s).drop p = nb (numS x.size ++ x) ++ rest) : readText s p = (x, ((p + ((numS x.size).size + x.size) : Nat) : Int), 0) := by
  have hl := congrArg List.length h
  rw [List.length_drop, nb_len, List.length_append, nb_len, ByteArray.size_append] at hl
  have hd : (nb s).drop (p + (numS x.size).size) = nb x ++ rest := by
    rw [← List.drop_drop, h, nb_app, List.append_assoc, List.drop_append_of_le_length (by rw [nb_len]; exact Nat.le_refl _), List.drop_of_length_le (by rw [nb_len]; exact Nat.le_refl _), List.nil_append]
  unfold readText
  rw [readNum_at s p x.size (nb x ++ rest) hp (by omega) (by rw [h, nb_app, List.append_assoc])]
  simp only [if_true]
  rw [if_neg (by omega)]
  have e : s.extract (p + (numS x.size).size) (p + (numS x.size).size + x.size) = x := by
    apply nb_inj
    rw [nb_extract, hd, show p + (numS x.size).size + x.size - (p + (numS x.size).size) = x.size by omega, List.take_append_of_le_length (by rw [nb_len]; exact Nat.le_refl _), List.take_of_length_le (by rw [nb_len]; exact Nat.le_refl _)]
  rw [show (((p + (numS x.size).size : Nat) : Int) + (x.size : Int)).toNat = p + (numS x.size).size + x.size by omega, Int.toNat_natCast, e]
  rw [show ((p + (numS x.size).size : Nat) : Int) + (x.size : Int) = ((p + ((numS x.size).size + x.size) : Nat) : Int) by omega]
/-- a number that is read is the one that its bytes say -/
theorem rnum_form (s : ByteArray) (p : Nat) : ∀ (d i n : Nat), d + i = 10 → n < 128 ^ i → (rnum s p d i n).2.2 = 0 →
    ∃ m : Nat, m < 128 ^ d ∧ (0 < i → 0 < m) ∧ (rnum s p d i n).1 = ((n + m * 128 ^ i : Nat) : Int) ∧ (rnum s p d i n).2.1 = ((p + i + (encN d m).length : Nat) : Int) ∧
      (nb s).drop (p + i) = (encN d m).map Int.toNat ++ (nb s).drop (p + i + (encN d m).length) := by
  intro d
  induction d with
  | zero => intro i n _ _ h; simp [rnum] at h
  | succ d ih =>
    intro i n hd hn
    simp only [rnum]
    by_cases h1 : (p + i) ≥ s.size
    · rw [if_pos h1]; intro h; simp at h
    · rw [if_neg h1]
      obtain ⟨hb0, hb1⟩ := bt_range s ((p + i : Nat) : Int)
      have hnb := nb_bt s (p + i) (by omega)
      generalize bt s ((p + i : Nat) : Int) = b at *
      by_cases hC : (i = 9 ∧ 1 < b) ∨ (0 < i ∧ b = 0)
      · rw [if_pos hC]; intro h; simp at h
      · rw [if_neg hC]
        obtain ⟨b, rfl⟩ := Int.eq_ofNat_of_zero_le hb0
        rw [Int.toNat_natCast] at *
        by_cases h128 : (b : Int) < 128
        · rw [if_pos h128]
          intro _
          have hb : b < 128 := by omega
          have e : encN (d + 1) b = [(b : Int)] := by simp only [encN]; rw [if_pos hb]
          have hp : 128 ^ 1 ≤ 128 ^ (d + 1) := Nat.pow_le_pow_right (by decide) (by omega)
          refine ⟨b, by omega, by omega, ?_, ?_, ?_⟩
          · show ((n + b % 128 * 128 ^ i : Nat) : Int) = _
            rw [Nat.mod_eq_of_lt hb]
          · rw [e]; rfl
          · rw [e, hnb]; rfl
        · rw [if_neg h128]
          intro h
          have h2 : b % 128 * 128 ^ i ≤ 127 * 128 ^ i := Nat.mul_le_mul_right _ (by omega)
          obtain ⟨m, g1, g2, g3, g4, g5⟩ := ih (i + 1) _ (by omega) (by rw [Nat.pow_succ]; omega) h
          have hm := g2 (by omega)
          have e : encN (d + 1) (b % 128 + 128 * m) = (b : Int) :: encN d m := by
            simp only [encN]
            rw [if_neg (by omega), show (b % 128 + 128 * m) / 128 = m by omega, show (b % 128 + 128 * m) % 128 + 128 = b by omega]
          refine ⟨b % 128 + 128 * m, by rw [Nat.pow_succ]; omega, by omega, ?_, ?_, ?_⟩
          · rw [g3, Nat.pow_succ, Nat.add_mul, Nat.mul_comm (128 ^ i) 128, ← Nat.mul_assoc, Nat.mul_comm m 128, ← Nat.add_assoc]
          · rw [g4, e, List.length_cons, show p + (i + 1) + (encN d m).length = p + i + ((encN d m).length + 1) by omega]
          · rw [e, List.length_cons, hnb, show p + i + ((encN d m).length + 1) = p + (i + 1) + (encN d m).length by omega]
            show _ = b :: ((encN d m).map Int.toNat ++ _)
            rw [← g5, show p + i + 1 = p + (i + 1) by omega]
theorem readNum_form {s : ByteArray} {p : Nat} (h : (readNum s p).2.2 = 0) : ∃ m : Nat, m < 2 ^ 64 ∧ (readNum s p).1 = (m : Int) ∧ (readNum s p).2.1 = ((p + (numS m).size : Nat) : Int) ∧ (nb s).drop p = nb (numS m) ++ (nb s).drop (p + (numS m).size) := by
  obtain ⟨h1, h2, h3, h4, h5⟩ := readNum_ok h
  unfold readNum at h h2 h3 h4 h5 ⊢
  have hC : ¬((p : Int) < 0 ∨ (s.size : Int) < p) := by
    intro hC; rw [if_pos hC] at h; simp at h
  rw [if_neg hC] at h h2 h3 h4 h5 ⊢
  rw [Int.toNat_natCast] at *
  obtain ⟨m, g1, g2, g3, g4, g5⟩ := rnum_form s p 10 0 0 rfl (by decide) h
  rw [show 0 + m * 128 ^ 0 = m by omega] at g3
  rw [Nat.add_zero] at g4 g5
  refine ⟨m, by omega, g3, ?_, ?_⟩
  · rw [g4, numS_len]
  · rw [nb_numS, numS_len]; exact g5
theorem readText_form {s : ByteArray} {p : Nat} (h : (readText s p).2.2 = 0) : ∃ q : Nat, (readText s p).2.1 = (q : Int) ∧ q = p + (numS (readText s p).1.size).size + (readText s p).1.size ∧ q ≤ s.size ∧
    (nb s).drop p = nb (numS (readText s p).1.size ++ (readText s p).1) ++ (nb s).drop q := by
  unfold readText at h ⊢
  have H := @readNum_form s p
  have H2 := @readNum_ok s p
  generalize readNum s p = r at *
  obtain ⟨n, q, e⟩ := r
  simp only at *
  by_cases he : e = 0
  · rw [if_pos he] at h ⊢
    obtain ⟨m, g1, g2, g3, g4⟩ := H he
    obtain ⟨k1, k2, k3, k4, k5⟩ := H2 he
    subst g2 g3
    by_cases hn : (m : Int) > (s.size : Int) - ((p + (numS m).size : Nat) : Int)
    · rw [if_pos hn] at h; simp at h
    · rw [if_neg hn]
      simp only
      have ht : (((p + (numS m).size : Nat) : Int) + (m : Int)).toNat = p + (numS m).size + m := by omega
      rw [ht, Int.toNat_natCast]
      have hz : (s.extract (p + (numS m).size) (p + (numS m).size + m)).size = m := by rw [ByteArray.size_extract]; omega
      rw [hz]
      refine ⟨p + (numS m).size + m, by omega, rfl, by omega, ?_⟩
      rw [nb_app, nb_extract, show p + (numS m).size + m - (p + (numS m).size) = m by omega, List.append_assoc, ← List.drop_drop (i := m), List.take_append_drop]
      exact g4
  · rw [if_neg he] at h
    exact absurd h he
/-! the reader in plain Lean -/
def pNum (s : ByteArray) (a e m : Int) : Int × Int × Int :=
  if e = 0 then (let r := readNum s a; if r.2.2 = 0 then (if r.1 > m then (0, a, 2) else (r.1, r.2.1, 0)) else (0, a, r.2.2)) else (0, a, e)
def pBool (s : ByteArray) (a e : Int) : Bool × Int × Int :=
  if e = 0 then (let r := pNum s a e 1; (r.1 == 1, r.2.1, if r.2.2 = 2 then 3 else r.2.2)) else (false, a, e)
def pText (s : ByteArray) (a e m : Int) : ByteArray × Int × Int :=
  if e = 0 then (let r := readText s a; if r.2.2 = 0 then (if (r.1.size : Int) > m then (⟨#[]⟩, a, 2) else (r.1, r.2.1, 0)) else (⟨#[]⟩, a, r.2.2)) else (⟨#[]⟩, a, e)
def pEnd (s : ByteArray) (a e : Int) : Int := if e = 0 then (if a < (s.size : Int) then 2 else e) else e
theorem oct_pNum (s : ByteArray) (hs : s.size ≤ 140737488351232) (a e m : Int) : Ev (fun k => octet_Reader_Number.f k s a e m) ((pNum s a e m).1, s, (pNum s a e m).2.1, (pNum s a e m).2.2) := by
  refine ⟨30, fun k hk => ?_⟩
  obtain ⟨k, rfl⟩ : ∃ q, k = q + 1 := ⟨k - 1, by omega⟩
  unfold octet_Reader_Number.f octet_Reader_Err.f pNum
  simp only [Option.bind_some]
  by_cases he : e = 0
  · rw [if_pos he, if_pos he, oct_read s hs a (k + 1) (by omega)]
    simp only [Option.bind_some]
    by_cases h0 : (readNum s a).2.2 = 0
    · rw [if_pos h0, if_pos h0]
      simp only [octet_Reader_Number.j0, decide_eq_true_iff]
      by_cases hm : (readNum s a).1 > m
      · rw [if_pos hm, if_pos hm]
      · rw [if_neg hm, if_neg hm, if_pos h0, he]
    · rw [if_neg h0, if_neg h0]
      simp only [octet_Reader_Number.j0]
      rw [if_neg (by simp), if_neg h0]
  · rw [if_neg he, if_neg he]
theorem pNum_range (s : ByteArray) (a e m : Int) (hm : 0 ≤ m) : 0 ≤ (pNum s a e m).1 ∧ (pNum s a e m).1 ≤ m := by
  unfold pNum
  by_cases he : e = 0
  · rw [if_pos he]
    have H := @readNum_ok s a
    generalize readNum s a = r at H
    simp only
    by_cases h0 : r.2.2 = 0
    · rw [if_pos h0]
      by_cases hq : r.1 > m
      · rw [if_pos hq]; exact ⟨Int.le_refl _, hm⟩
      · rw [if_neg hq]; exact ⟨(H h0).2.2.2.1, by omega⟩
    · rw [if_neg h0]; exact ⟨Int.le_refl _, hm⟩
  · rw [if_neg he]; exact ⟨Int.le_refl _, hm⟩
theorem oct_pInt (s : ByteArray) (hs : s.size ≤ 140737488351232) (a e m : Int) (h0 : 0 ≤ m) (h1 : m ≤ 9000000000000000000) : Ev (fun k => octet_Reader_Int.f k s a e m) ((pNum s a e m).1, s, (pNum s a e m).2.1, (pNum s a e m).2.2) := by
  have hr := pNum_range s a e m h0
  refine Ev.congr (f := fun k => (octet_Reader_Number.f k s a e m).bind fun bt478 => some (wrap64 bt478.1, bt478.2.1, bt478.2.2.1, bt478.2.2.2)) (fun k => ?_) (Ev.bind (oct_pNum s hs a e m) (Ev.congr (fun k => ?_) (Ev.now _)))
  · unfold octet_Reader_Int.f
    rw [if_neg (by omega), IntWalk.u64_in m (by omega)]
  · simp only; rw [IntWalk.wrap64_in _ (by omega)]
theorem oct_pBool (s : ByteArray) (hs : s.size ≤ 140737488351232) (a e : Int) : Ev (fun k => octet_Reader_Bool.f k s a e) ((pBool s a e).1, s, (pBool s a e).2.1, (pBool s a e).2.2) := by
  unfold octet_Reader_Bool.f octet_Reader_Err.f pBool
  simp only [Option.bind_some]
  refine Ev.congr (f := fun k => if e = 0 then (octet_Reader_Number.f k s a e 1).bind fun bt486 => (if bt486.2.2.2 = 2 then (some ((bt486.1 == 1), bt486.2.1, bt486.2.2.1, 3)) else (some ((bt486.1 == 1), bt486.2.1, bt486.2.2.1, bt486.2.2.2))) else some (false, s, a, e)) (fun k => rfl) ?_
  by_cases he : e = 0
  · simp only [if_pos he]
    refine Ev.bind (oct_pNum s hs a e 1) ?_
    generalize pNum s a e 1 = r
    by_cases h2 : r.2.2 = 2
    · exact Ev.congr (f := fun _ => some (r.1 == 1, s, r.2.1, 3)) (fun k => if_pos h2) (by simp only [if_pos h2]; exact Ev.now _)
    · exact Ev.congr (f := fun _ => some (r.1 == 1, s, r.2.1, r.2.2)) (fun k => if_neg h2) (by simp only [if_neg h2]; exact Ev.now _)
  · simp only [if_neg he]; exact Ev.now _
theorem oct_pText (s : ByteArray) (hs : s.size ≤ 140737488351232) (a e m : Int) : Ev (fun k => octet_Reader_Text.f k s a e m) ((pText s a e m).1, s, (pText s a e m).2.1, (pText s a e m).2.2) := by
  refine ⟨30, fun k hk => ?_⟩
  obtain ⟨k, rfl⟩ : ∃ q, k = q + 1 := ⟨k - 1, by omega⟩
  unfold octet_Reader_Text.f octet_Reader_Err.f pText
  simp only [Option.bind_some]
  by_cases he : e = 0
  · rw [if_pos he, if_pos he, oct_readText s hs a (k + 1) (by omega)]
    simp only [Option.bind_some]
    by_cases h0 : (readText s a).2.2 = 0
    · rw [if_pos h0, if_pos h0]
      simp only [octet_Reader_Text.j0, decide_eq_true_iff]
      by_cases hm : ((readText s a).1.size : Int) > m
      · rw [if_pos hm, if_pos hm]
      · rw [if_neg hm, if_neg hm, if_pos h0, he]
    · rw [if_neg h0, if_neg h0]
      simp only [octet_Reader_Text.j0]
      rw [if_neg (by simp), if_neg h0]
  · rw [if_neg he, if_neg he]
theorem pText_size (s : ByteArray) (a e m : Int) (hm : 0 ≤ m) : ((pText s a e m).1.size : Int) ≤ m := by
  have hz : ((⟨#[]⟩ : ByteArray).size : Int) ≤ m := hm
  unfold pText
  by_cases he : e = 0
  · rw [if_pos he]
    simp only
    by_cases h0 : (readText s a).2.2 = 0
    · rw [if_pos h0]
      by_cases hq : ((readText s a).1.size : Int) > m
      · rw [if_pos hq]; exact hz
      · rw [if_neg hq]; simp only; omega
    · rw [if_neg h0]; exact hz
  · rw [if_neg he]; exact hz
/-! what a reader keeps: the first error stays; without one the place goes on -/
theorem pNum_zero {s : ByteArray} {a e m : Int} (h : (pNum s a e m).2.2 = 0) : e = 0 ∧ (readNum s a).2.2 = 0 ∧ (readNum s a).1 ≤ m ∧ pNum s a e m = ((readNum s a).1, (readNum s a).2.1, 0) := by
  unfold pNum at h ⊢
  by_cases he : e = 0
  · rw [if_pos he] at h ⊢
    simp only at h ⊢
    by_cases h0 : (readNum s a).2.2 = 0
    · rw [if_pos h0] at h ⊢
      by_cases hm : (readNum s a).1 > m
      · rw [if_pos hm] at h; exact absurd h (by simp)
      · rw [if_neg hm]; exact ⟨he, h0, by omega, rfl⟩
    · rw [if_neg h0] at h; exact absurd h h0
  · rw [if_neg he] at h; exact absurd h he
theorem pText_zero {s : ByteArray} {a e m : Int} (h : (pText s a e m).2.2 = 0) : e = 0 ∧ (readText s a).2.2 = 0 ∧ ((readText s a).1.size : Int) ≤ m ∧ pText s a e m = ((readText s a).1, (readText s a).2.1, 0) := by
  unfold pText at h ⊢
  by_cases he : e = 0
  · rw [if_pos he] at h ⊢
    simp only at h ⊢
    by_cases h0 : (readText s a).2.2 = 0
    · rw [if_pos h0] at h ⊢
      by_cases hm : ((readText s a).1.size : Int) > m
      · rw [if_pos hm] at h; exact absurd h (by simp)
      · rw [if_neg hm]; exact ⟨he, h0, by omega, rfl⟩
    · rw [if_neg h0] at h; exact absurd h h0
  · rw [if_neg he] at h; exact absurd h he
theorem pBool_zero {s : ByteArray} {a e : Int} (h : (pBool s a e).2.2 = 0) : e = 0 ∧ (pNum s a e 1).2.2 = 0 ∧ pBool s a e = ((pNum s a e 1).1 == 1, (pNum s a e 1).2.1, 0) := by
  unfold pBool at h ⊢
  by_cases he : e = 0
  · rw [if_pos he] at h ⊢
    simp only at h ⊢
    by_cases h2 : (pNum s a e 1).2.2 = 2
    · rw [if_pos h2] at h; exact absurd h (by simp)
    · rw [if_neg h2] at h ⊢; rw [h]; exact ⟨he, rfl, rfl⟩
  · rw [if_neg he] at h; exact absurd h he
/-- A number that was read stands there. -/
theorem pNum_form {s : ByteArray} {p : Nat} {e m : Int} (h : (pNum s p e m).2.2 = 0) : e = 0 ∧ ∃ n : Nat, pNum s p e m = ((n : Int), ((p + (numS n).size : Nat) : Int), 0) ∧ (n : Int) ≤ m ∧ p + (numS n).size ≤ s.size ∧ (nb s).drop p = nb (numS n) ++ (nb s).drop (p + (numS n).size) := by
  obtain ⟨he, h0, hm, hq⟩ := pNum_zero h
  obtain ⟨n, _, g1, g2, g3⟩ := readNum_form h0
  obtain ⟨_, _, k3, _, _⟩ := readNum_ok h0
  rw [g1] at hm
  rw [g2] at k3
  exact ⟨he, n, by rw [hq, g1, g2], hm, by omega, g3⟩
theorem pText_form {s : ByteArray} {p : Nat} {e m : Int} (h : (pText s p e m).2.2 = 0) : e = 0 ∧ ∃ t : ByteArray, pText s p e m = (t, ((p + ((numS t.size).size + t.size) : Nat) : Int), 0) ∧ (t.size : Int) ≤ m ∧ p + ((numS t.size).size + t.size) ≤ s.size ∧ (nb s).drop p = nb (numS t.size ++ t) ++ (nb s).drop (p + ((numS t.size).size + t.size)) := by
  obtain ⟨he, h0, hm, hq⟩ := pText_zero h
  obtain ⟨q, g1, g2, g3, g4⟩ := readText_form h0
  have eq : q = p + ((numS (readText s p).1.size).size + (readText s p).1.size) := by omega
  subst eq
  exact ⟨he, (readText s p).1, by rw [hq, g1], hm, g3, g4⟩
/-- What stands there is read. -/
theorem pNum_at {s : ByteArray} {p n : Nat} {rest : List Nat} {m : Int} (hp : p ≤ s.size) (hn : (n : Int) ≤ m) (hm : m ≤ 9000000000000000000) (h : (nb s).drop p = nb (numS n) ++ rest) : pNum s p 0 m = ((n : Int), ((p + (numS n).size : Nat) : Int), 0) := by
  unfold pNum
  rw [if_pos rfl, readNum_at s p n rest hp (by omega) h]
  simp only
  rw [if_pos trivial, if_neg (by omega)]
theorem pText_at {s t : ByteArray} {p : Nat} {rest : List Nat} {m : Int} (hp : p ≤ s.size) (hn : (t.size : Int) ≤ m) (hm : m ≤ 1000000000) (h : (nb s).drop p = nb (numS t.size ++ t) ++ rest) : pText s p 0 m = (t, ((p + ((numS t.size).size + t.size) : Nat) : Int), 0) := by
  unfold pText
  rw [if_pos rfl, readText_at s t p rest hp (by omega) h]
  simp only
  rw [if_pos trivial, if_neg (by omega)]
theorem at_end {s : ByteArray} {p : Nat} {x rest : List Nat} (hp : p ≤ s.size) (h : (nb s).drop p = x ++ rest) : p + x.length ≤ s.size ∧ (nb s).drop (p + x.length) = rest := by
  have e := congrArg List.length h
  rw [List.length_drop, nb_len, List.length_append] at e
  refine ⟨by omega, ?_⟩
  rw [← List.drop_drop, h, List.drop_left]
/-! a chain's text in plain Lean -/
def encP : List S72 → ByteArray
  | [] => ⟨#[]⟩
  | p :: l => ((numS p.f0.size ++ p.f0) ++ numS p.f1.toNat) ++ encP l
def encV (v : S24) : ByteArray := numS v.f0.toNat ++ (if v.f1 = true then numS 1 else (numS 0 ++ numS v.f4.length) ++ (encP v.f4 ++ (numS v.f3.size ++ v.f3)))
def encL : List S24 → ByteArray
  | [] => ⟨#[]⟩
  | v :: l => encV v ++ encL l
def encodeS (l : List S24) : ByteArray × Int := if rightS l = true then (numS l.length ++ encL l, 0) else (⟨#[]⟩, 1)
theorem app_nil (s : ByteArray) : s ++ (⟨#[]⟩ : ByteArray) = s := nb_inj (by rw [nb_app]; exact List.append_nil _)
theorem app_assoc (a b c : ByteArray) : a ++ b ++ c = a ++ (b ++ c) := nb_inj (by rw [nb_app, nb_app, nb_app, nb_app, List.append_assoc])
theorem size_app (a b : ByteArray) : (a ++ b).size = a.size + b.size := ByteArray.size_append
theorem encP_size : ∀ (l : List S72), (∀ p ∈ l, p.f0.size ≤ 64) → (encP l).size ≤ 84 * l.length
  | [], _ => by unfold encP; exact Nat.zero_le _
  | p :: l, h => by
    have h1 := encP_size l (fun q hq => h q (List.mem_cons_of_mem _ hq))
    have h2 := h p List.mem_cons_self
    have h3 := numS_size p.f0.size
    have h4 := numS_size p.f1.toNat
    unfold encP
    rw [size_app, size_app, size_app, List.length_cons]
    omega
/-- what is told of a version that may be -/
structure Fine (v : S24) : Prop where
  id0 : 1 ≤ v.f0
  id1 : v.f0 ≤ 1099511627776
  len : v.f4.length ≤ 512
  ids : ∀ p ∈ v.f4, p.f0.size ≤ 64 ∧ 0 ≤ p.f1 ∧ p.f1 ≤ 4096
  sum : v.f3.size ≤ 64
  mark : v.f1 = true → v.f2 = 0 ∧ v.f3 = ⟨#[]⟩ ∧ v.f4 = []
  plain : v.f1 = false → (piecesS v.f4).1 = v.f2
theorem toList_nil {s : ByteArray} (h : s.toList = ([] : List UInt8)) : s = ⟨#[]⟩ := by
  have : s.data.toList = [] := by rw [← h]; exact (ByteArray.toList_eq s).symm
  cases s with | mk d => simp at this; rw [this]
theorem digitsS_size {s : ByteArray} (h : digitsS s = true) : s.size = 64 := by
  unfold digitsS at h
  rw [Bool.and_eq_true, decide_eq_true_iff] at h
  exact h.2
theorem fine_of {v : S24} (h : chkV v = 0) : Fine v := by
  have hl := chk_len h
  unfold chkV chk at h
  by_cases h1 : v.f0 < 1 ∨ v.f0 > 1099511627776
  · rw [if_pos h1] at h; exact absurd h (by decide)
  · rw [if_neg h1] at h
    by_cases h2 : v.f1 = true
    · rw [if_pos h2] at h
      by_cases h3 : v.f2 = 0 ∧ v.f3.toList = [] ∧ v.f4.length = 0
      · have e3 := toList_nil h3.2.1
        have e4 : v.f4 = [] := List.length_eq_zero_iff.1 h3.2.2
        exact ⟨by omega, by omega, hl, by rw [e4]; simp, by rw [e3]; decide, fun _ => ⟨h3.1, e3, e4⟩, fun e => by rw [h2] at e; cases e⟩
      · rw [if_neg h3] at h; exact absurd h (by decide)
    · rw [if_neg h2] at h
      by_cases h3 : (piecesS v.f4).2 = 0 ∧ (piecesS v.f4).1 = v.f2 ∧ (piecesS v.f4).1 ≤ 1048576 ∧ digitsS v.f3 = true
      · have hz := digitsS_size h3.2.2.2
        refine ⟨by omega, by omega, hl, fun p hp => ?_, by omega, fun e => absurd e h2, fun _ => h3.2.1⟩
        have h4 := h3.1
        unfold piecesS at h4
        rw [if_neg (by omega)] at h4
        by_cases h5 : v.f4.all (fun p => pieceOk p.f0 p.f1) = true
        · have := List.all_eq_true.1 h5 p hp
          unfold pieceOk at this
          rw [Bool.and_eq_true, decide_eq_true_iff] at this
          have hz2 := digitsS_size this.1
          exact ⟨by omega, by omega, by omega⟩
        · rw [if_neg h5] at h4; exact absurd h4 (by decide)
      · rw [if_neg h3] at h; exact absurd h (by decide)
theorem encV_size {v : S24} (h : Fine v) : (encV v).size ≤ 50000 := by
  have h1 := numS_size v.f0.toNat
  have h2 := numS_size 1
  have h3 := numS_size 0
  have h4 := numS_size v.f4.length
  have h5 := numS_size v.f3.size
  have h6 := encP_size v.f4 (fun p hp => (h.ids p hp).1)
  have h7 := h.len
  have h8 := h.sum
  unfold encV
  rw [size_app]
  split
  · omega
  · rw [size_app, size_app, size_app, size_app]; omega
theorem encL_size : ∀ (l : List S24), (∀ v ∈ l, Fine v) → (encL l).size ≤ 50000 * l.length
  | [], _ => by unfold encL; exact Nat.zero_le _
  | v :: l, h => by
    have h1 := encL_size l (fun q hq => h q (List.mem_cons_of_mem _ hq))
    have h2 := encV_size (h v List.mem_cons_self)
    unfold encL
    rw [size_app, List.length_cons]
    omega
theorem num_ev {n : Int} (h0 : 0 ≤ n) (h1 : n < 18446744073709551616) : Ev (fun k => octet_Number.f k (IntKind.u64.wrap n)) (numS n.toNat) := by
  refine ⟨10, fun k hk => ?_⟩
  obtain ⟨m, rfl⟩ := Int.eq_ofNat_of_zero_le h0
  rw [IntWalk.u64_in _ (by omega)]
  exact oct_num m (by omega) k hk
theorem text_ev {s : ByteArray} (h : s.size ≤ 64) : Ev (fun k => octet_Text.f k s) (numS s.size ++ s) := ⟨21, fun k hk => oct_text s (by omega) k hk⟩
theorem Ev.ifp {α : Type} {c : Prop} [Decidable c] {f : Nat → Option α} {r : α} (h : c) (hf : Ev f r) : Ev (fun k => if c then f k else none) r := Ev.congr (fun k => if_pos h) hf
theorem num1_ev : Ev (fun k => octet_Number.f k 1) (numS 1) := ⟨10, fun k hk => oct_num 1 (by decide) k hk⟩
theorem num0_ev : Ev (fun k => octet_Number.f k 0) (numS 0) := ⟨10, fun k hk => oct_num 0 (by decide) k hk⟩
theorem numL_ev {n : Nat} (h : n < 18446744073709551616) : Ev (fun k => octet_Number.f k (IntKind.u64.wrap (n : Int))) (numS n) := by
  have := num_ev (n := (n : Int)) (by omega) (by omega)
  rw [Int.toNat_natCast] at this
  exact this
theorem szapp {a b : ByteArray} {m n : Nat} (ha : a.size ≤ m) (hb : b.size ≤ n) : (a ++ b).size ≤ m + n := by rw [size_app]; omega
theorem fits {a b n m : Nat} (ha : a ≤ n) (hb : b ≤ m) (h : n + m ≤ 100000000) : a + b ≤ 9223372036854775807 := by omega
theorem enc_inner (x16 : List S24) (x18 : Int) (b : List S72) (hb : b.length ≤ 512) (hids : ∀ p ∈ b, p.f0.size ≤ 64 ∧ 0 ≤ p.f1 ∧ p.f1 ≤ 4096) (c1 : Int) (c2 : Bool) (c3 : Int) (c4 : ByteArray) (c5 : List S72) (h4 : c4.size ≤ 64) (r : ByteArray × Int) :
    ∀ (d i : Nat) (s : ByteArray) (z : Nat), i + d = b.length → s.size ≤ z → z + 84 * d ≤ 99999000 → Ev (fun k => chain_Encode.l0 k ((s ++ encP (b.drop i)) ++ (numS c4.size ++ c4)) x16 (x16.length : Int) (wrap64 (x18 + 1))) r →
      Ev (fun k => chain_Encode.l1 k s x16 (x16.length : Int) x18 b (b.length : Int) (i : Int) c1 c2 c3 c4 c5) r
  | 0, i, s, z, h, hs, hz, hr => by
    have z1 := szapp (numS_size c4.size) h4
    rw [List.drop_of_length_le (by omega), encP, app_nil] at hr
    have hF := fits hs z1 (by omega)
    have r1 : ∀ k, chain_Encode.l1 (k + 1) s x16 (x16.length : Int) x18 b (b.length : Int) (i : Int) c1 c2 c3 c4 c5 = _ := fun k => by rw [chain_Encode.l1, if_neg (by omega)]
    refine Ev.step r1 (Ev.bind (text_ev h4) ?_)
    exact Ev.ifp hF hr
  | d + 1, i, s, z, h, hs, hz, hr => by
    have hi : i < b.length := by omega
    have hp := hids _ (List.getElem_mem hi)
    have z1 := szapp (numS_size (b[i]).f0.size) hp.1
    have z2 := numS_size (b[i]).f1.toNat
    have z3 := szapp z1 z2
    have z4 := szapp hs z3
    rw [List.drop_eq_getElem_cons hi, encP] at hr
    have hG := enc_inner x16 x18 b hb hids c1 c2 c3 c4 c5 h4 r d (i + 1) (s ++ ((numS (b[i]).f0.size ++ (b[i]).f0) ++ numS (b[i]).f1.toNat)) _ (by omega) z4 (by omega) (by rw [app_assoc s]; exact hr)
    have hF1 := fits z1 z2 (by omega)
    have hF2 := fits hs z3 (by omega)
    have r1 : ∀ k, chain_Encode.l1 (k + 1) s x16 (x16.length : Int) x18 b (b.length : Int) (i : Int) c1 c2 c3 c4 c5 = _ := fun k => by rw [chain_Encode.l1, if_pos (by omega), if_pos (by omega), if_pos (by omega), rd72 b i hi, w1 i (by omega)]
    refine Ev.step r1 (Ev.bind (text_ev hp.1) ?_)
    refine Ev.bind (num_ev hp.2.1 (by omega)) ?_
    refine Ev.ifp hF1 ?_
    exact Ev.ifp hF2 hG
theorem enc_go (l : List S24) (hl : l.length ≤ 32) (hf : ∀ v ∈ l, Fine v) : ∀ (d i : Nat) (s : ByteArray) (z : Nat), i + d = l.length → s.size ≤ z → z + 50000 * d ≤ 2000000 → Ev (fun k => chain_Encode.l0 k s l (l.length : Int) (i : Int)) (s ++ encL (l.drop i), 0)
  | 0, i, s, z, h, hs, hz => by
    rw [List.drop_of_length_le (by omega), encL, app_nil]
    exact Ev.step (f := fun _ => some (s, 0)) (fun k => by rw [chain_Encode.l0, if_neg (by omega)]) (Ev.now _)
  | d + 1, i, s, z, h, hs, hz => by
    have hi : i < l.length := by omega
    have hF := hf _ (mem_getD l i hi)
    have eg : l[i] = l.getD i z24 := by rw [List.getD_eq_getElem?_getD, List.getElem?_eq_getElem hi]; rfl
    have hG := enc_go l hl hf d (i + 1) (s ++ encV (l.getD i z24)) _ (by omega) (szapp hs (encV_size hF)) (by omega)
    have e : s ++ encL (l.drop i) = (s ++ encV (l.getD i z24)) ++ encL (l.drop (i + 1)) := by
      rw [List.drop_eq_getElem_cons hi, app_assoc, eg, encL]
    rw [e]
    have r1 : ∀ k, chain_Encode.l0 (k + 1) s l (l.length : Int) (i : Int) = _ := fun k => by
      rw [chain_Encode.l0, if_pos (by omega), if_pos (by omega), if_pos (by omega), rd24, w1 i (by omega)]
    generalize l.getD i z24 = v at *
    have f1 := hF.id0
    have f2 := hF.id1
    have f3 := hF.len
    have z1 := numS_size v.f0.toNat
    have z2 := numS_size 1
    have z3 := numS_size 0
    have z4 := numS_size v.f4.length
    have hN := num_ev (n := v.f0) (by omega) (by omega)
    have hF1 := fits hs z1 (by omega)
    have y1 := szapp hs z1
    by_cases hm : v.f1 = true
    · have hF2 := fits y1 z2 (by omega)
      rw [encV, if_pos hm, ← app_assoc] at hG
      rw [encV, if_pos hm, ← app_assoc s]
      refine Ev.step r1 (Ev.bind hN ?_)
      refine Ev.ifp hF1 ?_
      refine Ev.congr (fun k => if_pos hm) ?_
      refine Ev.bind num1_ev ?_
      exact Ev.ifp hF2 hG
    · have y2 := szapp z3 z4
      have hF2 := fits z3 z4 (by omega)
      have hF3 := fits y1 y2 (by omega)
      rw [encV, if_neg hm] at hG
      rw [encV, if_neg hm]
      have hI := enc_inner l (i : Int) v.f4 f3 hF.ids v.f0 v.f1 v.f2 v.f3 v.f4 hF.sum ((s ++ (numS v.f0.toNat ++ ((numS 0 ++ numS v.f4.length) ++ (encP v.f4 ++ (numS v.f3.size ++ v.f3))))) ++ encL (l.drop (i + 1)), 0) v.f4.length 0 ((s ++ numS v.f0.toNat) ++ (numS 0 ++ numS v.f4.length)) _ (by omega) (szapp y1 y2) (by omega) (by
        rw [w1 i (by omega), List.drop_zero, app_assoc s, app_assoc s, app_assoc s, app_assoc (numS v.f0.toNat), app_assoc (numS v.f0.toNat), app_assoc (numS 0 ++ numS v.f4.length)]
        exact hG)
      refine Ev.step r1 (Ev.bind hN ?_)
      refine Ev.ifp hF1 ?_
      refine Ev.congr (fun k => if_neg hm) ?_
      refine Ev.bind num0_ev ?_
      refine Ev.bind (numL_ev (n := v.f4.length) (by omega)) ?_
      refine Ev.ifp hF2 ?_
      exact Ev.ifp hF3 hI
theorem encode_ev (l : List S24) (hl : l.length ≤ 2199023255551) (hok : ∀ v ∈ l, OkV v) : Ev (fun k => chain_Encode.f k l) (encodeS l) := by
  unfold chain_Encode.f encodeS
  refine Ev.bind (right_ev l (by omega) hok) ?_
  by_cases hR : rightS l = true
  · rw [if_pos hR]
    have h32 := (right_at hR).1
    have := enc_go l h32 (fun v hv => fine_of (right_mem hR hv)) l.length 0 (numS l.length) _ (by omega) (numS_size l.length) (by omega)
    rw [List.drop_zero] at this
    exact Ev.congr (fun k => if_pos hR) (Ev.bind (numL_ev (by omega)) this)
  · rw [if_neg hR]
    exact Ev.congr (fun k => if_neg hR) (Ev.now _)
/-! the document's text is the same -/
/-! reading -/
def dPieces (s : ByteArray) : Nat → Int → Int → List S72 × Int × Int
  | 0, a, e => ([], a, e)
  | n + 1, a, e => (⟨(pText s a e 64).1, (pNum s (pText s a e 64).2.1 (pText s a e 64).2.2 4096).1⟩ :: (dPieces s n (pNum s (pText s a e 64).2.1 (pText s a e 64).2.2 4096).2.1 (pNum s (pText s a e 64).2.1 (pText s a e 64).2.2 4096).2.2).1, (dPieces s n (pNum s (pText s a e 64).2.1 (pText s a e 64).2.2 4096).2.1 (pNum s (pText s a e 64).2.1 (pText s a e 64).2.2 4096).2.2).2)
structure Rd where
  v : S24
  a : Int
  e : Int
def dPlain (s : ByteArray) (id : Int) (a e : Int) : Rd :=
  let c := pNum s a e 512
  let p := dPieces s c.1.toNat c.2.1 c.2.2
  let t := pText s p.2.1 p.2.2 64
  ⟨⟨id, false, (piecesS p.1).1, t.1, p.1⟩, t.2.1, t.2.2⟩
def dVersion (s : ByteArray) (a e : Int) : Rd :=
  let i := pNum s a e 1099511627776
  let b := pBool s i.2.1 i.2.2
  if b.1 = true then ⟨⟨i.1, true, 0, ⟨#[]⟩, []⟩, b.2.1, b.2.2⟩ else dPlain s i.1 b.2.1 b.2.2
def dVersions (s : ByteArray) : Nat → Int → Int → List S24 × Int × Int
  | 0, a, e => ([], a, e)
  | n + 1, a, e => ((dVersion s a e).v :: (dVersions s n (dVersion s a e).a (dVersion s a e).e).1, (dVersions s n (dVersion s a e).a (dVersion s a e).e).2)
def finS (s : ByteArray) (l : List S24) (a e : Int) : List S24 × Int := if pEnd s a e = 0 then (if rightS l = true then (l, 0) else ([], 3)) else ([], 3)
def decodeS (s : ByteArray) : List S24 × Int :=
  let c := pNum s 0 0 32
  let r := dVersions s c.1.toNat c.2.1 c.2.2
  finS s r.1 r.2.1 r.2.2
theorem dPieces_ok (s : ByteArray) : ∀ (n : Nat) (a e : Int), (dPieces s n a e).1.length = n ∧ ∀ p ∈ (dPieces s n a e).1, p.f0.size ≤ 64
  | 0, a, e => by simp [dPieces]
  | n + 1, a, e => by
    have h := dPieces_ok s n (pNum s (pText s a e 64).2.1 (pText s a e 64).2.2 4096).2.1 (pNum s (pText s a e 64).2.1 (pText s a e 64).2.2 4096).2.2
    have hz := pText_size s a e 64 (by omega)
    rw [dPieces]
    refine ⟨by rw [List.length_cons, h.1], fun p hp => ?_⟩
    rcases List.mem_cons.1 hp with rfl | hp
    · show (pText s a e 64).1.size ≤ 64; omega
    · exact h.2 p hp
theorem dVersion_ok (s : ByteArray) (a e : Int) : OkV (dVersion s a e).v := by
  unfold dVersion
  simp only
  by_cases hb : (pBool s (pNum s a e 1099511627776).2.1 (pNum s a e 1099511627776).2.2).1 = true
  · rw [if_pos hb]; exact ⟨Nat.zero_le _, by simp, by simp⟩
  · rw [if_neg hb]
    unfold dPlain
    simp only
    generalize (pBool s (pNum s a e 1099511627776).2.1 (pNum s a e 1099511627776).2.2).2.1 = a1
    generalize (pBool s (pNum s a e 1099511627776).2.1 (pNum s a e 1099511627776).2.2).2.2 = e1
    have hr := pNum_range s a1 e1 512 (by omega)
    generalize pNum s a1 e1 512 = c at hr
    have hP := dPieces_ok s c.1.toNat c.2.1 c.2.2
    generalize dPieces s c.1.toNat c.2.1 c.2.2 = p at hP
    have hz := pText_size s p.2.1 p.2.2 64 (by omega)
    exact ⟨by show (pText s p.2.1 p.2.2 64).1.size ≤ _; omega, by show p.1.length ≤ _; omega, fun q hq => Nat.le_trans (hP.2 q hq) (by omega)⟩
theorem dVersions_ok (s : ByteArray) : ∀ (n : Nat) (a e : Int), (dVersions s n a e).1.length = n ∧ ∀ v ∈ (dVersions s n a e).1, OkV v
  | 0, a, e => by simp [dVersions]
  | n + 1, a, e => by
    have h := dVersions_ok s n (dVersion s a e).a (dVersion s a e).e
    rw [dVersions]
    refine ⟨by rw [List.length_cons, h.1], fun p hp => ?_⟩
    rcases List.mem_cons.1 hp with rfl | hp
    · exact dVersion_ok s a e
    · exact h.2 p hp
/-! both readers answer that -/
theorem dec_inner (s : ByteArray) (hs : s.size ≤ 140737488351232) (acc : List S24) (m i : Int) (cnt : Nat) (hcnt : cnt ≤ 512) (id : Int) (hacc : acc.length ≤ 32) (r : List S24 × Int) : ∀ (d j : Nat) (a e : Int) (ps : List S72), j + d = cnt → ps.length = j → (∀ p ∈ ps, p.f0.size ≤ 64) →
    Ev (fun k => chain_Decode.l0 k (acc ++ [⟨id, false, (piecesS (ps ++ (dPieces s d a e).1)).1, (pText s (dPieces s d a e).2.1 (dPieces s d a e).2.2 64).1, ps ++ (dPieces s d a e).1⟩]) m (wrap64 (i + 1)) s (pText s (dPieces s d a e).2.1 (dPieces s d a e).2.2 64).2.1 (pText s (dPieces s d a e).2.1 (dPieces s d a e).2.2 64).2.2) r →
    Ev (fun k => chain_Decode.l1 k acc m i (cnt : Int) (j : Int) s a e id false 0 ⟨#[]⟩ ps) r
  | 0, j, a, e, ps, h, hl, hz, hr => by
    rw [dPieces, List.append_nil] at hr
    have r1 : ∀ k, chain_Decode.l1 (k + 1) acc m i (cnt : Int) (j : Int) s a e id false 0 ⟨#[]⟩ ps = _ := fun k => by rw [chain_Decode.l1, if_neg (by omega)]
    refine Ev.step r1 (Ev.bind (oct_pText s hs a e 64) ?_)
    refine Ev.bind (pieces_ev ps (fun p hp => Nat.le_trans (hz p hp) (by omega))) ?_
    exact Ev.ifp (by omega) hr
  | d + 1, j, a, e, ps, h, hl, hz, hr => by
    have hT := pText_size s a e 64 (by omega)
    have hG := dec_inner s hs acc m i cnt hcnt id hacc r d (j + 1) (pNum s (pText s a e 64).2.1 (pText s a e 64).2.2 4096).2.1 (pNum s (pText s a e 64).2.1 (pText s a e 64).2.2 4096).2.2 (ps ++ [⟨(pText s a e 64).1, (pNum s (pText s a e 64).2.1 (pText s a e 64).2.2 4096).1⟩]) (by omega) (by rw [List.length_append, hl]; rfl) (fun p hp => by
      rcases List.mem_append.1 hp with hp | hp
      · exact hz p hp
      · rw [List.mem_singleton] at hp; rw [hp]; show (pText s a e 64).1.size ≤ 64; omega) (by rw [List.append_assoc]; rw [dPieces] at hr; exact hr)
    have r1 : ∀ k, chain_Decode.l1 (k + 1) acc m i (cnt : Int) (j : Int) s a e id false 0 ⟨#[]⟩ ps = _ := fun k => by rw [chain_Decode.l1, if_pos (by omega), w1 j (by omega)]
    refine Ev.step r1 (Ev.bind (oct_pText s hs a e 64) ?_)
    refine Ev.bind (oct_pInt s hs _ _ 4096 (by omega) (by omega)) ?_
    exact Ev.ifp (by omega) hG
theorem fin_ev (s : ByteArray) (l : List S24) (hl : l.length ≤ 32) (hok : ∀ v ∈ l, OkV v) (a e : Int) : Ev (fun k => (octet_Reader_End.f s a e).bind fun bt544 => (if bt544.1 = 0 then ((chain_right.f k l).bind fun t548 => (if t548 = true then (some (l, 0)) else (some (([] : List (S24)), 3)))) else (some (([] : List (S24)), 3)))) (finS s l a e) := by
  have hE : ∃ q : ByteArray × Int × Int, octet_Reader_End.f s a e = some (pEnd s a e, q) := by
    unfold octet_Reader_End.f pEnd
    by_cases he : e = 0
    · rw [if_pos he, if_pos he]
      by_cases ha : a < (s.size : Int)
      · rw [if_pos ha, if_pos ha]; exact ⟨_, rfl⟩
      · rw [if_neg ha, if_neg ha]; exact ⟨_, rfl⟩
    · rw [if_neg he, if_neg he]; exact ⟨_, rfl⟩
  obtain ⟨q, hq⟩ := hE
  rw [hq]
  unfold finS
  by_cases h0 : pEnd s a e = 0
  · rw [if_pos h0]
    refine Ev.congr (f := fun k => (chain_right.f k l).bind fun t548 => (if t548 = true then (some (l, 0)) else (some (([] : List (S24)), 3)))) (fun k => by rw [Option.bind_some]; exact if_pos h0) (Ev.bind (right_ev l (by omega) hok) ?_)
    by_cases hR : rightS l = true
    · simp only [if_pos hR]; exact Ev.now _
    · simp only [if_neg hR]; exact Ev.now _
  · rw [if_neg h0]
    exact Ev.congr (f := fun _ => some ([], 3)) (fun k => by rw [Option.bind_some]; exact if_neg h0) (Ev.now _)
theorem dec_go (s : ByteArray) (hs : s.size ≤ 140737488351232) (cnt : Nat) (hc : cnt ≤ 32) : ∀ (d i : Nat) (a e : Int) (acc : List S24), i + d = cnt → acc.length = i → (∀ v ∈ acc, OkV v) →
    Ev (fun k => chain_Decode.l0 k acc (cnt : Int) (i : Int) s a e) (finS s (acc ++ (dVersions s d a e).1) (dVersions s d a e).2.1 (dVersions s d a e).2.2)
  | 0, i, a, e, acc, h, hl, hok => by
    rw [dVersions, List.append_nil]
    have r1 : ∀ k, chain_Decode.l0 (k + 1) acc (cnt : Int) (i : Int) s a e = _ := fun k => by rw [chain_Decode.l0, if_neg (by omega)]
    exact Ev.step r1 (fin_ev s acc (by omega) hok a e)
  | d + 1, i, a, e, acc, h, hl, hok => by
    have hV := dVersion_ok s a e
    have hG := dec_go s hs cnt hc d (i + 1) (dVersion s a e).a (dVersion s a e).e (acc ++ [(dVersion s a e).v]) (by omega) (by rw [List.length_append, hl]; rfl) (fun v hv => by
      rcases List.mem_append.1 hv with hv | hv
      · exact hok v hv
      · rw [List.mem_singleton] at hv; rw [hv]; exact hV)
    rw [List.append_assoc] at hG
    rw [dVersions]
    have r1 : ∀ k, chain_Decode.l0 (k + 1) acc (cnt : Int) (i : Int) s a e = _ := fun k => by rw [chain_Decode.l0, if_pos (by omega)]
    refine Ev.step r1 (Ev.bind (oct_pInt s hs a e 1099511627776 (by omega) (by omega)) ?_)
    refine Ev.bind (oct_pBool s hs _ _) ?_
    revert hG
    show Ev (fun k => chain_Decode.l0 k (acc ++ [(dVersion s a e).v]) _ _ _ _ _) (finS s (acc ++ ((dVersion s a e).v :: _)) _ _) → Ev _ (finS s (acc ++ ((dVersion s a e).v :: _)) _ _)
    unfold dVersion
    simp only
    generalize pNum s a e 1099511627776 = q
    have hb1 : ∀ x : Bool × Int × Int, x.1 = true → (x.1, x.2) = (true, x.2) := fun x hx => by rw [hx]
    generalize pBool s q.2.1 q.2.2 = b
    obtain ⟨b1, b2, b3⟩ := b
    cases b1 with
    | true =>
      rw [if_pos rfl]
      intro hG
      refine Ev.congr (fun k => if_pos rfl) ?_
      refine Ev.ifp (by omega) ?_
      rw [w1 i (by omega)]
      exact hG
    | false =>
      rw [if_neg (by simp)]
      unfold dPlain
      simp only
      intro hG
      refine Ev.congr (fun k => if_neg (by simp)) ?_
      have hR := pNum_range s b2 b3 512 (by omega)
      refine Ev.bind (oct_pInt s hs b2 b3 512 (by omega) (by omega)) ?_
      generalize pNum s b2 b3 512 = c at hG hR
      obtain ⟨c1, c2, c3⟩ := c
      obtain ⟨n, rfl⟩ := Int.eq_ofNat_of_zero_le hR.1
      simp only [Int.toNat_natCast] at hG hR
      refine dec_inner s hs acc (cnt : Int) (i : Int) n (by omega) q.1 (by omega) _ n 0 c2 c3 [] (by omega) rfl (by simp) ?_
      rw [w1 i (by omega)]
      exact hG
theorem decode_ev (s : ByteArray) (hs : s.size ≤ 140737488351232) : Ev (fun k => chain_Decode.f k s) (decodeS s) := by
  have hR := pNum_range s 0 0 32 (by omega)
  have hI := oct_pInt s hs 0 0 32 (by omega) (by omega)
  unfold chain_Decode.f decodeS octet_NewReader.f
  simp only
  generalize pNum s 0 0 32 = c at hR hI
  obtain ⟨c1, c2, c3⟩ := c
  obtain ⟨n, rfl⟩ := Int.eq_ofNat_of_zero_le hR.1
  simp only [Int.toNat_natCast] at hI hR ⊢
  refine Ev.congr (f := fun k => (octet_Reader_Int.f k s 0 0 32).bind fun bt504 => chain_Decode.l0 k [] bt504.1 ((0 : Nat) : Int) bt504.2.1 bt504.2.2.1 bt504.2.2.2) (fun k => by rw [Option.bind_some]; rfl) (Ev.bind hI ?_)
  exact dec_go s hs n (by omega) n 0 c2 c3 [] (by omega) rfl (by simp)
theorem decodeS_ok (s : ByteArray) : (decodeS s).1.length ≤ 32 ∧ ∀ v ∈ (decodeS s).1, OkV v := by
  unfold decodeS
  simp only
  have hR := pNum_range s 0 0 32 (by omega)
  generalize pNum s 0 0 32 = c at hR
  have hV := dVersions_ok s c.1.toNat c.2.1 c.2.2
  generalize dVersions s c.1.toNat c.2.1 c.2.2 = r at hV
  unfold finS
  split
  · split
    · exact ⟨by show r.1.length ≤ 32; omega, hV.2⟩
    · simp
  · simp
end Go.Proofs.Ytmpnaaegahjfkaa.Q