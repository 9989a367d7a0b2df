/- A snapshot and a frame, in plain Lean: which may be, their texts, what texts say; and that the program answers it. -/
import Derived.Test.YthjfofgcikfepaaDk1
import Derived.Test.YthjfofgcikfepaaPa
import Derived.Test.YthjfofgcikfepaaPb
import Derived.Test.YthjfofgcikfepaaPf
namespace Go.Proofs.Ythjfofgcikfepaa.Q
open Go.Maps Go.WideShapes Go.WideMaps Go.RowKit Go.Proofs.YthjfofgcikfepaaW.PrintWords Go.Proofs.YthjfofgcikfepaaW.PrintLast Go.Proofs.YthjfofgcikfepaaW.PrintMore
set_option linter.unusedVariables false
set_option linter.unusedSimpArgs false
set_option maxHeartbeats 10000000
set_option maxRecDepth 100000
/-! numbers and texts as bytes (after package octet) -/
def nb (s : ByteArray) : List Nat := s.data.toList.map UInt8.toNat
theorem nb_lt (s : ByteArray) : ∀ b ∈ nb s, b < 256 := by
  intro b hb
  simp only [nb, List.mem_map] at hb
  obtain ⟨c, _, rfl⟩ := hb
  exact c.toNat_lt
theorem nb_len (s : ByteArray) : (nb s).length = s.size := by simp [nb]
theorem nb_app (a b : ByteArray) : nb (a ++ b) = nb a ++ nb b := by simp [nb, ByteArray.data_append]
theorem nb_bt (s : ByteArray) (i : Nat) (h : i < s.size) : (nb s).drop i = (bt s i).toNat :: (nb s).drop (i + 1) := by
  have h' : i < (nb s).length := by rw [nb_len]; exact h
  rw [List.drop_eq_getElem_cons h']
  congr 1
  unfold bt
  rw [dif_pos (by simpa using h)]
  simp only [nb, List.getElem_map, Int.toNat_natCast, Array.getElem_toList]
  rfl
theorem nb_inj {a b : ByteArray} (h : nb a = nb b) : a = b := by
  apply ByteArray.ext
  apply Array.toList_inj.1
  exact (List.map_inj_right (f := UInt8.toNat) (fun x y hxy => UInt8.toNat_inj.1 hxy)).1 h
theorem nb_extract (s : ByteArray) (a b : Nat) : nb (s.extract a b) = ((nb s).drop a).take (b - a) := by
  simp [nb, ByteArray.data_extract, List.map_take, List.map_drop, List.extract_eq_take_drop]
theorem nb_strOf (l : List Int) (h : ∀ x ∈ l, 0 ≤ x ∧ x < 256) : nb (strOfNums l) = l.map Int.toNat := by
  simp only [nb, strOfNums, List.map_map]
  apply List.map_congr_left
  intro x hx
  have := h x hx
  simp only [Function.comp, UInt8.toNat_ofNat']
  omega

/-- what ReadNumber answers, from the i-th byte on -/
def rnum (s : ByteArray) (p : Nat) : Nat → Nat → Nat → Int × Int × Int
  | 0, _, _ => (0, 0, 3)
  | d + 1, i, n =>
    if (p + i : Nat) ≥ s.size then (0, 0, 5)
    else if (i = 9 ∧ 1 < bt s (p + i : Nat)) ∨ (0 < i ∧ bt s (p + i : Nat) = 0) then (0, 0, 3)
    else if bt s (p + i : Nat) < 128 then (((n + (bt s (p + i : Nat)).toNat % 128 * 128 ^ i : Nat) : Int), ((p + i + 1 : Nat) : Int), 0)
    else rnum s p d (i + 1) (n + (bt s (p + i : Nat)).toNat % 128 * 128 ^ i)

theorem wraps_u64 (j : Nat) (hj : j ≤ 64) (n : Int) (h₀ : 0 ≤ n) (h₁ : n < 2 ^ j) : IntKind.u64.wrap n = n := by
  apply IntWalk.u64_in
  have : (2:Int) ^ j ≤ 2 ^ 64 := by exact_mod_cast Nat.pow_le_pow_right (by decide) hj
  omega
theorem and127 (b : Int) (h0 : 0 ≤ b) (h1 : b ≤ 255) : Go.bits .and .u8 b 127 = b % 128 :=
  bits_mask .u8 8 (by decide) wraps_u8 7 (by decide) b h0 (by omega)
theorem or_low (n m i : Nat) (hn : n < 2 ^ i) (hm : m % 2 ^ i = 0) (hm1 : m < 2 ^ 64) (hn1 : n < 2 ^ 64) : Go.bits .or .u64 (n : Int) (m : Int) = ((n + m : Nat) : Int) := by
  rw [(bits_nat .u64 64 (by decide) (wraps_u64 64 (by decide)) n m hn1 hm1).2, Nat.or_comm]
  have hq : m = 2 ^ i * (m / 2 ^ i) := by have := Nat.div_add_mod m (2 ^ i); omega
  rw [hq, ← Nat.two_pow_add_eq_or_of_lt hn (m / 2 ^ i), ← hq, Nat.add_comm]
theorem pow128 (i : Nat) : 128 ^ i = 2 ^ (7 * i) := by rw [show (128:Nat) = 2 ^ 7 from rfl, ← Nat.pow_mul]
theorem piece_lt (i : Nat) (hi : i ≤ 9) (c : Nat) (hc : c < 128) (h9 : i = 9 → c ≤ 1) : c * 128 ^ i < 2 ^ 64 := by
  by_cases h : i = 9
  · subst h; have := h9 rfl; omega
  · have h2 : 128 ^ i ≤ 128 ^ 8 := Nat.pow_le_pow_right (by decide) (by omega)
    have : c * 128 ^ i ≤ 127 * 128 ^ 8 := Nat.mul_le_mul (by omega) h2
    omega
theorem low_lt (i n : Nat) (hi : i ≤ 9) (hn : n < 128 ^ i) : n < 2 ^ 63 := by
  have h2 : 128 ^ i ≤ 128 ^ 9 := Nat.pow_le_pow_right (by decide) hi
  omega
/-- the step of a reading -/
theorem or_shl (i n : Nat) (hi : i ≤ 9) (hn : n < 128 ^ i) (b : Int) (h0 : 0 ≤ b) (h1 : b ≤ 255) (h9 : i = 9 → b ≤ 1) :
    Go.bits .or .u64 (n : Int) (shl .u64 (IntKind.u64.wrap (Go.bits .and .u8 b 127)) (wrap64 (7 * (i : Int)))) = ((n + b.toNat % 128 * 128 ^ i : Nat) : Int) := by
  obtain ⟨b, rfl⟩ := Int.eq_ofNat_of_zero_le h0
  rw [and127 _ h0 h1, IntWalk.u64_in _ (by omega), IntWalk.wrap64_in _ (by omega)]
  have hp := piece_lt i hi (b % 128) (by omega) (by omega)
  have e : shl .u64 ((b : Int) % 128) (7 * (i : Int)) = ((b % 128 * 128 ^ i : Nat) : Int) := by
    unfold shl
    rw [show min (7 * (i : Int)).toNat IntKind.u64.bits = 7 * i from by simp [IntKind.bits]; omega]
    have : ((b : Int) % 128) * 2 ^ (7 * i) = ((b % 128 * 128 ^ i : Nat) : Int) := by rw [pow128]; simp
    rw [this]
    exact wraps_u64 64 (by decide) _ (by omega) (by exact_mod_cast hp)
  rw [e, Int.toNat_natCast]
  have := low_lt i n hi hn
  exact or_low n _ (7 * i) (by rw [← pow128]; exact hn) (by rw [← pow128]; exact Nat.mul_mod_left _ _) hp (by omega)
def readNum (s : ByteArray) (at' : Int) : Int × Int × Int := if at' < 0 ∨ (s.size : Int) < at' then (0, 0, 1) else rnum s at'.toNat 10 0 0

theorem oct_l0 (s : ByteArray) (hs : s.size ≤ 140737488351232) (p : Nat) (hp : p ≤ s.size) : ∀ (d i n : Nat), d + i = 10 → i ≤ 9 → n < 128 ^ i → ∀ k, 2 * d ≤ k →
    octet_ReadNumber.l0 k s p n i = some (rnum s p d i n) := by
  intro d
  induction d with
  | zero => intro i n h1 h2; omega
  | succ d ih =>
    intro i n hd hi hn k hk
    obtain ⟨k, rfl⟩ : ∃ m, k = m + 2 := ⟨k - 2, by omega⟩
    have hw : wrap64 ((p : Int) + (i : Int)) = ((p + i : Nat) : Int) := by rw [IntWalk.wrap64_in _ (by omega)]; omega
    simp only [octet_ReadNumber.l0, hw, rnum]
    rw [if_pos (by omega)]
    by_cases h1 : (p + i) ≥ s.size
    · rw [if_pos (by omega), if_pos h1]
    · rw [if_neg (by omega), if_neg h1, if_pos (by omega), if_pos (by omega)]
      obtain ⟨hb0, hb1⟩ := bt_range s ((p + i : Nat) : Int)
      generalize bt s ((p + i : Nat) : Int) = b at *
      have key : ∀ c : Bool, (c = true ↔ ((i = 9 ∧ 1 < b) ∨ (0 < i ∧ b = 0))) → octet_ReadNumber.j2 (k + 1) s p n i b i c = some (if (i = 9 ∧ 1 < b) ∨ (0 < i ∧ b = 0) then (0, 0, 3) else if b < 128 then (((n + b.toNat % 128 * 128 ^ i : Nat) : Int), ((p + i + 1 : Nat) : Int), 0) else rnum s p d (i + 1) (n + b.toNat % 128 * 128 ^ i)) := by
        intro c hc
        simp only [octet_ReadNumber.j2]
        by_cases hC : (i = 9 ∧ 1 < b) ∨ (0 < i ∧ b = 0)
        · rw [if_pos (hc.2 hC), if_pos hC]
        · rw [if_neg (fun h => hC (hc.1 h)), if_neg hC]
          rw [if_pos (by rw [IntWalk.wrap64_in _ (by omega)]; omega)]
          rw [or_shl i n hi hn b hb0 hb1 (by omega)]
          by_cases h128 : b < 128
          · rw [if_pos h128, if_pos h128, hw, IntWalk.wrap64_in _ (by omega)]
            simp
          · rw [if_neg h128, if_neg h128]
            have hi' : i ≤ 8 := by omega
            have e1 : wrap64 ((i : Int) + 1) = ((i + 1 : Nat) : Int) := by rw [IntWalk.wrap64_in _ (by omega)]; omega
            rw [e1]
            refine ih (i + 1) _ (by omega) (by omega) ?_ k (by omega)
            have h2 : b.toNat % 128 * 128 ^ i ≤ 127 * 128 ^ i := Nat.mul_le_mul_right _ (by omega)
            rw [Nat.pow_succ]; omega
      by_cases h9 : i = 9
      · rw [if_pos (by omega)]
        by_cases hb : b > 1
        · rw [if_pos hb]; exact key true (by simp; omega)
        · rw [if_neg hb, if_pos (by omega)]; exact key _ (by rw [beq_iff_eq]; omega)
      · rw [if_neg (by omega)]
        by_cases h0 : i > 0
        · rw [if_pos (by omega)]; exact key _ (by rw [beq_iff_eq]; omega)
        · rw [if_neg (by omega)]; exact key _ (by simp; omega)

theorem oct_read (s : ByteArray) (hs : s.size ≤ 140737488351232) (a : Int) (k : Nat) (hk : 21 ≤ k) : octet_ReadNumber.f k s a = some (readNum s a) := by
  obtain ⟨k, rfl⟩ : ∃ m, k = m + 1 := ⟨k - 1, by omega⟩
  unfold octet_ReadNumber.f readNum
  by_cases h : a < 0
  · rw [if_pos h, if_pos (.inl h)]; simp [octet_ReadNumber.j0]
  · rw [if_neg h]
    by_cases h2 : (s.size : Int) < a
    · rw [if_pos (.inr h2)]; simp [octet_ReadNumber.j0, h2]
    · rw [if_neg (by omega)]
      simp only [octet_ReadNumber.j0]
      rw [if_neg (by simp; omega)]
      obtain ⟨p, rfl⟩ := Int.eq_ofNat_of_zero_le (show 0 ≤ a by omega)
      exact oct_l0 s hs p (by omega) 10 0 0 rfl (by omega) (by decide) k (by omega)

/-- the bytes of a number -/
def encN : Nat → Nat → List Int
  | 0, _ => []
  | d + 1, n => if n < 128 then [(n : Int)] else ((n % 128 + 128 : Nat) : Int) :: encN d (n / 128)
def numS (n : Nat) : ByteArray := strOfNums (encN 10 n)
theorem encN_len : ∀ d n, (encN d n).length ≤ d := by
  intro d
  induction d with
  | zero => intro n; simp [encN]
  | succ d ih => intro n; simp only [encN]; split; simp; have := ih (n / 128); simp; omega
theorem or128 : ∀ m : Nat, m < 256 → m ||| 128 = m % 128 + 128 := by decide +kernel
theorem bits_or128 (x : Nat) : Go.bits .or .u8 (((x : Int)) % 256) 128 = ((x % 128 + 128 : Nat) : Int) := by
  have h := (bits_nat .u8 8 (by decide) wraps_u8 (x % 256) 128 (by omega) (by decide)).2
  have e : ((x : Int)) % 256 = ((x % 256 : Nat) : Int) := by omega
  rw [e, show (128 : Int) = ((128 : Nat) : Int) from rfl, h, or128 _ (by omega), show x % 256 % 128 = x % 128 by omega]
theorem oct_num_l0 : ∀ d x : Nat, x < 128 ^ d → 0 < d → ∀ (acc : List Int) (k : Nat), acc.length + d ≤ 100 → d ≤ k → octet_Number.l0 k x acc = some (strOfNums (acc ++ encN d x)) := by
  intro d
  induction d with
  | zero => intro x _ h; omega
  | succ d ih =>
    intro x hx _ acc k hacc hk
    obtain ⟨k, rfl⟩ : ∃ m, k = m + 1 := ⟨k - 1, by omega⟩
    simp only [octet_Number.l0, encN]
    by_cases h : x < 128
    · rw [if_neg (by omega), if_pos (by omega), if_pos h, show (x : Int) % 256 = x by omega]
    · rw [if_pos (by omega), if_pos (by omega), if_neg h, bits_or128]
      have hd : 0 < d := by
        rcases Nat.eq_zero_or_pos d with h0 | h0
        · subst h0; simp at hx; omega
        · exact h0
      rw [show (x : Int) / 128 = ((x / 128 : Nat) : Int) by omega]
      rw [ih (x / 128) (by rw [Nat.pow_succ] at hx; exact Nat.div_lt_of_lt_mul (by omega)) hd _ k (by simp; omega) (by omega)]
      simp
theorem oct_num (x : Nat) (hx : x < 2 ^ 64) (k : Nat) (hk : 10 ≤ k) : octet_Number.f k x = some (numS x) := by
  unfold octet_Number.f numS
  rw [oct_num_l0 10 x (by omega) (by omega) [] k (by simp) hk]; simp
theorem numS_app (xs ys : List Int) : strOfNums xs ++ strOfNums ys = strOfNums (xs ++ ys) := by
  apply ByteArray.ext
  simp [strOfNums]
theorem numS_size (n : Nat) : (numS n).size ≤ 10 := by unfold numS; rw [strOfNums_size]; exact encN_len 10 n

/-- what is known of a number that was read -/
theorem rnum_ok (s : ByteArray) (p : Nat) : ∀ (d i n : Nat), d + i = 10 → n < 128 ^ i → (rnum s p d i n).2.2 = 0 →
    0 ≤ (rnum s p d i n).1 ∧ (rnum s p d i n).1 < 2 ^ 64 ∧ (p + i : Nat) < (rnum s p d i n).2.1 ∧ (rnum s p d i n).2.1 ≤ s.size := by
  intro d
  induction d with
  | zero => intro i n _ _ h; simp [rnum] at h
  | succ d ih =>
    intro i n hd hn
    simp only [rnum]
    by_cases h1 : (p + i) ≥ s.size
    · rw [if_pos h1]; intro h; simp at h
    · rw [if_neg h1]
      obtain ⟨hb0, hb1⟩ := bt_range s ((p + i : Nat) : Int)
      generalize bt s ((p + i : Nat) : Int) = b at *
      by_cases hC : (i = 9 ∧ 1 < b) ∨ (0 < i ∧ b = 0)
      · rw [if_pos hC]; intro h; simp at h
      · rw [if_neg hC]
        have hi : i ≤ 9 := by omega
        have hp := piece_lt i hi (b.toNat % 128) (by omega) (by omega)
        by_cases h128 : b < 128
        · rw [if_pos h128]
          intro _
          refine ⟨Int.natCast_nonneg _, ?_, by show ((p + i : Nat) : Int) < ((p + i + 1 : Nat) : Int); omega, by show ((p + i + 1 : Nat) : Int) ≤ _; omega⟩
          show ((n + b.toNat % 128 * 128 ^ i : Nat) : Int) < 2 ^ 64
          by_cases h9 : i = 9
          · subst h9
            have : b.toNat % 128 * 128 ^ 9 ≤ 1 * 128 ^ 9 := Nat.mul_le_mul_right _ (by omega)
            omega
          · have hp8 : 128 ^ i ≤ 128 ^ 8 := Nat.pow_le_pow_right (by decide) (by omega)
            have : b.toNat % 128 * 128 ^ i ≤ 127 * 128 ^ 8 := Nat.mul_le_mul (by omega) hp8
            omega
        · rw [if_neg h128]
          intro h
          have h2 : b.toNat % 128 * 128 ^ i ≤ 127 * 128 ^ i := Nat.mul_le_mul_right _ (by omega)
          obtain ⟨g1, g2, g3, g4⟩ := ih (i + 1) _ (by omega) (by rw [Nat.pow_succ]; omega) h
          exact ⟨g1, g2, by omega, g4⟩
theorem readNum_ok {s : ByteArray} {a : Int} (h : (readNum s a).2.2 = 0) : 0 ≤ a ∧ a < (readNum s a).2.1 ∧ (readNum s a).2.1 ≤ s.size ∧ 0 ≤ (readNum s a).1 ∧ (readNum s a).1 < 2 ^ 64 := by
  unfold readNum at h ⊢
  by_cases hC : a < 0 ∨ (s.size : Int) < a
  · rw [if_pos hC] at h; simp at h
  · rw [if_neg hC] at h ⊢
    obtain ⟨p, rfl⟩ := Int.eq_ofNat_of_zero_le (show 0 ≤ a by omega)
    obtain ⟨g1, g2, g3, g4⟩ := rnum_ok s (p : Int).toNat 10 0 0 rfl (by decide) h
    exact ⟨by omega, by simpa using g3, g4, g1, g2⟩

def readText (s : ByteArray) (a : Int) : ByteArray × Int × Int :=
  let r := readNum s a
  if r.2.2 = 0 then (if r.1 > (s.size : Int) - r.2.1 then (⟨#[]⟩, 0, 5) else (s.extract r.2.1.toNat (r.2.1 + r.1).toNat, r.2.1 + r.1, 0)) else (⟨#[]⟩, 0, r.2.2)

theorem oct_readText (s : ByteArray) (hs : s.size ≤ 140737488351232) (a : Int) (k : Nat) (hk : 21 ≤ k) : octet_ReadText.f k s a = some (readText s a) := by
  unfold octet_ReadText.f
  rw [oct_read s hs a k hk]
  simp only [Option.bind_some]
  unfold readText
  have H := @readNum_ok s a
  generalize readNum s a = r at *
  obtain ⟨n, q, e⟩ := r
  simp only at *
  by_cases he : e = 0
  · rw [if_pos he, if_pos he]
    obtain ⟨h1, h2, h3, h4, h5⟩ := H he
    have w1 : IntKind.u64.wrap (wrap64 ((s.size : Int) - q)) = (s.size : Int) - q := by
      rw [IntWalk.wrap64_in _ (by omega), IntWalk.u64_in _ (by omega)]
    rw [w1]
    by_cases hn : n > (s.size : Int) - q
    · rw [if_pos hn, if_pos hn]
    · rw [if_neg hn, if_neg hn]
      have w2 : wrap64 n = n := IntWalk.wrap64_in _ (by omega)
      have w3 : wrap64 (q + n) = q + n := IntWalk.wrap64_in _ (by omega)
      rw [w2, w3, if_pos (by omega), if_pos (by omega), if_pos (by omega)]
  · rw [if_neg he, if_neg he]
theorem oct_text (s : ByteArray) (hs : s.size ≤ 140737488351232) (k : Nat) (hk : 21 ≤ k) : octet_Text.f k s = some (numS s.size ++ s) := by
  unfold octet_Text.f
  rw [IntWalk.u64_in _ (by omega), oct_num _ (by omega) k (by omega)]
  simp only [Option.bind_some]
  have := numS_size s.size
  rw [if_pos (by omega)]
theorem bytesOf_len (s : ByteArray) : (bytesOf s).length = s.size := by simp [bytesOf]
/-- a number's bytes are read as it -/
theorem rnum_enc (s : ByteArray) (p : Nat) : ∀ (d i m acc : Nat) (rest : List Nat), d + i = 10 → m < 128 ^ d → (0 < i → 0 < m) → acc + m * 128 ^ i < 2 ^ 64 → (nb s).drop (p + i) = (encN d m).map Int.toNat ++ rest → 0 < d →
    rnum s p d i acc = (((acc + m * 128 ^ i : Nat) : Int), ((p + i + (encN d m).length : Nat) : Int), 0) := by
  intro d
  induction d with
  | zero => intro i m acc rest _ _ _ _ _ h; omega
  | succ d ih =>
    intro i m acc rest hd hm hi0 hlt hs _
    have hlen : p + i < s.size := by
      have := congrArg List.length hs
      rw [List.length_drop, nb_len, List.length_append, List.length_map] at this
      have h1 : 0 < (encN (d + 1) m).length := by simp only [encN]; split <;> simp
      omega
    have hb := nb_bt s (p + i) hlen
    rw [hs] at hb
    simp only [rnum]
    rw [if_neg (by omega)]
    by_cases h128 : m < 128
    · have e : encN (d + 1) m = [(m : Int)] := by simp only [encN]; rw [if_pos h128]
      rw [e] at hb ⊢
      simp only [List.map_cons, List.map_nil, List.cons_append, List.nil_append, List.cons.injEq, Int.toNat_natCast] at hb
      have hbr := bt_range s ((p + i : Nat) : Int)
      have hbm : bt s ((p + i : Nat) : Int) = (m : Int) := by omega
      rw [hbm]
      have h9 : i = 9 → m ≤ 1 := by rintro rfl; omega
      rw [if_neg (by omega), if_pos (by omega), Int.toNat_natCast, Nat.mod_eq_of_lt h128]
      rfl
    · have e : encN (d + 1) m = ((m % 128 + 128 : Nat) : Int) :: encN d (m / 128) := by simp only [encN]; rw [if_neg h128]
      rw [e] at hb ⊢
      simp only [List.map_cons, List.cons_append, List.cons.injEq, Int.toNat_natCast] at hb
      have hbr := bt_range s ((p + i : Nat) : Int)
      have hbm : bt s ((p + i : Nat) : Int) = ((m % 128 + 128 : Nat) : Int) := by omega
      have hd0 : 0 < d := by
        rcases Nat.eq_zero_or_pos d with h0 | h0
        · subst h0; simp at hm; omega
        · exact h0
      rw [hbm]
      rw [if_neg (by omega), if_neg (by omega), Int.toNat_natCast]
      have hsplit : m * 128 ^ i = m % 128 * 128 ^ i + m / 128 * 128 ^ (i + 1) := by
        rw [Nat.pow_succ, Nat.mul_comm (128 ^ i) 128, ← Nat.mul_assoc, ← Nat.add_mul]
        congr 1; omega
      rw [show (m % 128 + 128) % 128 = m % 128 by omega]
      have hs2 : (nb s).drop (p + (i + 1)) = (encN d (m / 128)).map Int.toNat ++ rest := by rw [show p + (i + 1) = p + i + 1 by omega]; exact hb.2.symm
      rw [ih (i + 1) (m / 128) (acc + m % 128 * 128 ^ i) rest (by omega) (by rw [Nat.pow_succ] at hm; exact Nat.div_lt_of_lt_mul (by omega)) (by omega) (by omega) hs2 hd0]
      rw [List.length_cons, hsplit, show acc + m % 128 * 128 ^ i + m / 128 * 128 ^ (i + 1) = acc + (m % 128 * 128 ^ i + m / 128 * 128 ^ (i + 1)) by omega, show p + (i + 1) + (encN d (m / 128)).length = p + i + ((encN d (m / 128)).length + 1) by omega]
theorem encN_range : ∀ d n, ∀ x ∈ encN d n, 0 ≤ x ∧ x < 256 := by
  intro d
  induction d with
  | zero => intro n x hx; cases hx
  | succ d ih =>
    intro n x hx
    simp only [encN] at hx
    split at hx
    · simp only [List.mem_singleton] at hx; omega
    · rcases List.mem_cons.1 hx with rfl | hx
      · omega
      · exact ih _ x hx
theorem nb_numS (n : Nat) : nb (numS n) = (encN 10 n).map Int.toNat := nb_strOf _ (encN_range 10 n)
theorem numS_len (n : Nat) : (numS n).size = (encN 10 n).length := by unfold numS; rw [strOfNums_size]
theorem readNum_at (s : ByteArray) (p n : Nat) (rest : List Nat) (hp : p ≤ s.size) (hn : n < 2 ^ 64) (h : (nb s).drop p = nb (numS n) ++ rest) : readNum s p = ((n : Int), ((p + (numS n).size : Nat) : Int), 0) := by
  unfold readNum
  rw [if_neg (by omega), Int.toNat_natCast, rnum_enc s p 10 0 n 0 rest rfl (by omega) (by omega) (by omega) (by rw [Nat.add_zero, h, nb_numS]) (by omega), numS_len]
  simp
theorem readText_at (s x : ByteArray) (p : Nat) (rest : List Nat) (hp : p ≤ s.size) (hx : x.size < 2 ^ 60) (h : (nb s).drop p = nb (numS x.size ++ x) ++ rest) : readText s p = (x, ((p + ((numS x.size).size + x.size) : Nat) : Int), 0) := by
  have hl := congrArg List.length h
  rw [List.length_drop, nb_len, List.length_append, nb_len, ByteArray.size_append] at hl
  have hd : (nb s).drop (p + (numS x.size).size) = nb x ++ rest := by
    rw [← List.drop_drop, h, nb_app, List.append_assoc, List.drop_append_of_le_length (by rw [nb_len]; exact Nat.le_refl _), List.drop_of_length_le (by rw [nb_len]; exact Nat.le_refl _), List.nil_append]
  unfold readText
  rw [readNum_at s p x.size (nb x ++ rest) hp (by omega) (by rw [h, nb_app, List.append_assoc])]
  simp only [if_true]
  rw [if_neg (by omega)]
  have e : s.extract (p + (numS x.size).size) (p + (numS x.size).size + x.size) = x := by
    apply nb_inj
    rw [nb_extract, hd, show p + (numS x.size).size + x.size - (p + (numS x.size).size) = x.size by omega, List.take_append_of_le_length (by rw [nb_len]; exact Nat.le_refl _), List.take_of_length_le (by rw [nb_len]; exact Nat.le_refl _)]
  rw [show (((p + (numS x.size).size : Nat) : Int) + (x.size : Int)).toNat = p + (numS x.size).size + x.size by omega, Int.toNat_natCast, e]
  rw [show ((p + (numS x.size).size : Nat) : Int) + (x.size : Int) = ((p + ((numS x.size).size + x.size) : Nat) : Int) by omega]
theorem readText_ok {s : ByteArray} {a : Int} (h : (readText s a).2.2 = 0) : 0 ≤ a ∧ a < (readText s a).2.1 ∧ (readText s a).2.1 ≤ s.size := by
  unfold readText at h ⊢
  have H := @readNum_ok s a
  generalize readNum s a = r at *
  obtain ⟨n, q, e⟩ := r
  simp only at *
  by_cases he : e = 0
  · rw [if_pos he] at h ⊢
    obtain ⟨h1, h2, h3, h4, h5⟩ := H he
    by_cases hn : n > (s.size : Int) - q
    · rw [if_pos hn] at h; simp at h
    · rw [if_neg hn]
      exact ⟨h1, by simp only; omega, by simp only; omega⟩
  · rw [if_neg he] at h
    exact absurd h he
/-- a number that is read is the one that its bytes say -/
theorem rnum_form (s : ByteArray) (p : Nat) : ∀ (d i n : Nat), d + i = 10 → n < 128 ^ i → (rnum s p d i n).2.2 = 0 →
    ∃ m : Nat, m < 128 ^ d ∧ (0 < i → 0 < m) ∧ (rnum s p d i n).1 = ((n + m * 128 ^ i : Nat) : Int) ∧ (rnum s p d i n).2.1 = ((p + i + (encN d m).length : Nat) : Int) ∧
      (nb s).drop (p + i) = (encN d m).map Int.toNat ++ (nb s).drop (p + i + (encN d m).length) := by
  intro d
  induction d with
  | zero => intro i n _ _ h; simp [rnum] at h
  | succ d ih =>
    intro i n hd hn
    simp only [rnum]
    by_cases h1 : (p + i) ≥ s.size
    · rw [if_pos h1]; intro h; simp at h
    · rw [if_neg h1]
      obtain ⟨hb0, hb1⟩ := bt_range s ((p + i : Nat) : Int)
      have hnb := nb_bt s (p + i) (by omega)
      generalize bt s ((p + i : Nat) : Int) = b at *
      by_cases hC : (i = 9 ∧ 1 < b) ∨ (0 < i ∧ b = 0)
      · rw [if_pos hC]; intro h; simp at h
      · rw [if_neg hC]
        obtain ⟨b, rfl⟩ := Int.eq_ofNat_of_zero_le hb0
        rw [Int.toNat_natCast] at *
        by_cases h128 : (b : Int) < 128
        · rw [if_pos h128]
          intro _
          have hb : b < 128 := by omega
          have e : encN (d + 1) b = [(b : Int)] := by simp only [encN]; rw [if_pos hb]
          have hp : 128 ^ 1 ≤ 128 ^ (d + 1) := Nat.pow_le_pow_right (by decide) (by omega)
          refine ⟨b, by omega, by omega, ?_, ?_, ?_⟩
          · show ((n + b % 128 * 128 ^ i : Nat) : Int) = _
            rw [Nat.mod_eq_of_lt hb]
          · rw [e]; rfl
          · rw [e, hnb]; rfl
        · rw [if_neg h128]
          intro h
          have h2 : b % 128 * 128 ^ i ≤ 127 * 128 ^ i := Nat.mul_le_mul_right _ (by omega)
          obtain ⟨m, g1, g2, g3, g4, g5⟩ := ih (i + 1) _ (by omega) (by rw [Nat.pow_succ]; omega) h
          have hm := g2 (by omega)
          have e : encN (d + 1) (b % 128 + 128 * m) = (b : Int) :: encN d m := by
            simp only [encN]
            rw [if_neg (by omega), show (b % 128 + 128 * m) / 128 = m by omega, show (b % 128 + 128 * m) % 128 + 128 = b by omega]
          refine ⟨b % 128 + 128 * m, by rw [Nat.pow_succ]; omega, by omega, ?_, ?_, ?_⟩
          · rw [g3, Nat.pow_succ, Nat.add_mul, Nat.mul_comm (128 ^ i) 128, ← Nat.mul_assoc, Nat.mul_comm m 128, ← Nat.add_assoc]
          · rw [g4, e, List.length_cons, show p + (i + 1) + (encN d m).length = p + i + ((encN d m).length + 1) by omega]
          · rw [e, List.length_cons, hnb, show p + i + ((encN d m).length + 1) = p + (i + 1) + (encN d m).length by omega]
            show _ = b :: ((encN d m).map Int.toNat ++ _)
            rw [← g5, show p + i + 1 = p + (i + 1) by omega]
theorem readNum_form {s : ByteArray} {p : Nat} (h : (readNum s p).2.2 = 0) : ∃ m : Nat, m < 2 ^ 64 ∧ (readNum s p).1 = (m : Int) ∧ (readNum s p).2.1 = ((p + (numS m).size : Nat) : Int) ∧ (nb s).drop p = nb (numS m) ++ (nb s).drop (p + (numS m).size) := by
  obtain ⟨h1, h2, h3, h4, h5⟩ := readNum_ok h
  unfold readNum at h h2 h3 h4 h5 ⊢
  have hC : ¬((p : Int) < 0 ∨ (s.size : Int) < p) := by
    intro hC; rw [if_pos hC] at h; simp at h
  rw [if_neg hC] at h h2 h3 h4 h5 ⊢
  rw [Int.toNat_natCast] at *
  obtain ⟨m, g1, g2, g3, g4, g5⟩ := rnum_form s p 10 0 0 rfl (by decide) h
  rw [show 0 + m * 128 ^ 0 = m by omega] at g3
  rw [Nat.add_zero] at g4 g5
  refine ⟨m, by omega, g3, ?_, ?_⟩
  · rw [g4, numS_len]
  · rw [nb_numS, numS_len]; exact g5
theorem readText_form {s : ByteArray} {p : Nat} (h : (readText s p).2.2 = 0) : ∃ q : Nat, (readText s p).2.1 = (q : Int) ∧ q = p + (numS (readText s p).1.size).size + (readText s p).1.size ∧ q ≤ s.size ∧
    (nb s).drop p = nb (numS (readText s p).1.size ++ (readText s p).1) ++ (nb s).drop q := by
  unfold readText at h ⊢
  have H := @readNum_form s p
  have H2 := @readNum_ok s p
  generalize readNum s p = r at *
  obtain ⟨n, q, e⟩ := r
  simp only at *
  by_cases he : e = 0
  · rw [if_pos he] at h ⊢
    obtain ⟨m, g1, g2, g3, g4⟩ := H he
    obtain ⟨k1, k2, k3, k4, k5⟩ := H2 he
    subst g2 g3
    by_cases hn : (m : Int) > (s.size : Int) - ((p + (numS m).size : Nat) : Int)
    · rw [if_pos hn] at h; simp at h
    · rw [if_neg hn]
      simp only
      have ht : (((p + (numS m).size : Nat) : Int) + (m : Int)).toNat = p + (numS m).size + m := by omega
      rw [ht, Int.toNat_natCast]
      have hz : (s.extract (p + (numS m).size) (p + (numS m).size + m)).size = m := by rw [ByteArray.size_extract]; omega
      rw [hz]
      refine ⟨p + (numS m).size + m, by omega, rfl, by omega, ?_⟩
      rw [nb_app, nb_extract, show p + (numS m).size + m - (p + (numS m).size) = m by omega, List.append_assoc, ← List.drop_drop (i := m), List.take_append_drop]
      exact g4
  · rw [if_neg he] at h
    exact absurd h he
theorem nb_pre {s t : ByteArray} {rest : List Nat} (h : nb s = nb t ++ rest) : t = s.extract 0 t.size := by
  apply nb_inj
  rw [nb_extract, h, List.drop_zero, Nat.sub_zero, List.take_append_of_le_length (by rw [nb_len]; exact Nat.le_refl _), List.take_of_length_le (by rw [nb_len]; exact Nat.le_refl _)]
theorem w1 (i : Nat) (h : i < 9223372036854775807) : wrap64 ((i : Int) + 1) = ((i + 1 : Nat) : Int) := by rw [IntWalk.wrap64_in _ (by omega)]; omega
/-! the reader in plain Lean -/
def pNum (s : ByteArray) (a e m : Int) : Int × Int × Int :=
  if e = 0 then (let r := readNum s a; if r.2.2 = 0 then (if r.1 > m then (0, a, 2) else (r.1, r.2.1, 0)) else (0, a, r.2.2)) else (0, a, e)
def pText (s : ByteArray) (a e m : Int) : ByteArray × Int × Int :=
  if e = 0 then (let r := readText s a; if r.2.2 = 0 then (if (r.1.size : Int) > m then (⟨#[]⟩, a, 2) else (r.1, r.2.1, 0)) else (⟨#[]⟩, a, r.2.2)) else (⟨#[]⟩, a, e)
def pEnd (s : ByteArray) (a e : Int) : Int := if e = 0 then (if a < (s.size : Int) then 2 else e) else e
theorem oct_pNum (s : ByteArray) (hs : s.size ≤ 140737488351232) (a e m : Int) : Ev (fun k => octet_Reader_Number.f k s a e m) ((pNum s a e m).1, s, (pNum s a e m).2.1, (pNum s a e m).2.2) := by
  refine ⟨30, fun k hk => ?_⟩
  obtain ⟨k, rfl⟩ : ∃ q, k = q + 1 := ⟨k - 1, by omega⟩
  unfold octet_Reader_Number.f octet_Reader_Err.f pNum
  simp only [Option.bind_some]
  by_cases he : e = 0
  · rw [if_pos he, if_pos he, oct_read s hs a (k + 1) (by omega)]
    simp only [Option.bind_some]
    by_cases h0 : (readNum s a).2.2 = 0
    · rw [if_pos h0, if_pos h0]
      simp only [octet_Reader_Number.j0, decide_eq_true_iff]
      by_cases hm : (readNum s a).1 > m
      · rw [if_pos hm, if_pos hm]
      · rw [if_neg hm, if_neg hm, if_pos h0, he]
    · rw [if_neg h0, if_neg h0]
      simp only [octet_Reader_Number.j0]
      rw [if_neg (by simp), if_neg h0]
  · rw [if_neg he, if_neg he]
theorem pNum_range (s : ByteArray) (a e m : Int) (hm : 0 ≤ m) : 0 ≤ (pNum s a e m).1 ∧ (pNum s a e m).1 ≤ m := by
  unfold pNum
  by_cases he : e = 0
  · rw [if_pos he]
    have H := @readNum_ok s a
    generalize readNum s a = r at H
    simp only
    by_cases h0 : r.2.2 = 0
    · rw [if_pos h0]
      by_cases hq : r.1 > m
      · rw [if_pos hq]; exact ⟨Int.le_refl _, hm⟩
      · rw [if_neg hq]; exact ⟨(H h0).2.2.2.1, by omega⟩
    · rw [if_neg h0]; exact ⟨Int.le_refl _, hm⟩
  · rw [if_neg he]; exact ⟨Int.le_refl _, hm⟩
theorem oct_pInt (s : ByteArray) (hs : s.size ≤ 140737488351232) (a e m : Int) (h0 : 0 ≤ m) (h1 : m ≤ 9000000000000000000) : Ev (fun k => octet_Reader_Int.f k s a e m) ((pNum s a e m).1, s, (pNum s a e m).2.1, (pNum s a e m).2.2) := by
  have hr := pNum_range s a e m h0
  refine Ev.congr (f := fun k => (octet_Reader_Number.f k s a e m).bind fun bt478 => some (wrap64 bt478.1, bt478.2.1, bt478.2.2.1, bt478.2.2.2)) (fun k => ?_) (Ev.bind (oct_pNum s hs a e m) (Ev.congr (fun k => ?_) (Ev.now _)))
  · unfold octet_Reader_Int.f
    rw [if_neg (by omega), IntWalk.u64_in m (by omega)]
  · simp only; rw [IntWalk.wrap64_in _ (by omega)]
theorem oct_pText (s : ByteArray) (hs : s.size ≤ 140737488351232) (a e m : Int) : Ev (fun k => octet_Reader_Text.f k s a e m) ((pText s a e m).1, s, (pText s a e m).2.1, (pText s a e m).2.2) := by
  refine ⟨30, fun k hk => ?_⟩
  obtain ⟨k, rfl⟩ : ∃ q, k = q + 1 := ⟨k - 1, by omega⟩
  unfold octet_Reader_Text.f octet_Reader_Err.f pText
  simp only [Option.bind_some]
  by_cases he : e = 0
  · rw [if_pos he, if_pos he, oct_readText s hs a (k + 1) (by omega)]
    simp only [Option.bind_some]
    by_cases h0 : (readText s a).2.2 = 0
    · rw [if_pos h0, if_pos h0]
      simp only [octet_Reader_Text.j0, decide_eq_true_iff]
      by_cases hm : ((readText s a).1.size : Int) > m
      · rw [if_pos hm, if_pos hm]
      · rw [if_neg hm, if_neg hm, if_pos h0, he]
    · rw [if_neg h0, if_neg h0]
      simp only [octet_Reader_Text.j0]
      rw [if_neg (by simp), if_neg h0]
  · rw [if_neg he, if_neg he]
theorem pText_size (s : ByteArray) (a e m : Int) (hm : 0 ≤ m) : ((pText s a e m).1.size : Int) ≤ m := by
  have hz : ((⟨#[]⟩ : ByteArray).size : Int) ≤ m := hm
  unfold pText
  by_cases he : e = 0
  · rw [if_pos he]
    simp only
    by_cases h0 : (readText s a).2.2 = 0
    · rw [if_pos h0]
      by_cases hq : ((readText s a).1.size : Int) > m
      · rw [if_pos hq]; exact hz
      · rw [if_neg hq]; simp only; omega
    · rw [if_neg h0]; exact hz
  · rw [if_neg he]; exact hz
/-! what a reader keeps: the first error stays; without one the place goes on -/
theorem pNum_zero {s : ByteArray} {a e m : Int} (h : (pNum s a e m).2.2 = 0) : e = 0 ∧ (readNum s a).2.2 = 0 ∧ (readNum s a).1 ≤ m ∧ pNum s a e m = ((readNum s a).1, (readNum s a).2.1, 0) := by
  unfold pNum at h ⊢
  by_cases he : e = 0
  · rw [if_pos he] at h ⊢
    simp only at h ⊢
    by_cases h0 : (readNum s a).2.2 = 0
    · rw [if_pos h0] at h ⊢
      by_cases hm : (readNum s a).1 > m
      · rw [if_pos hm] at h; exact absurd h (by simp)
      · rw [if_neg hm]; exact ⟨he, h0, by omega, rfl⟩
    · rw [if_neg h0] at h; exact absurd h h0
  · rw [if_neg he] at h; exact absurd h he
theorem pText_zero {s : ByteArray} {a e m : Int} (h : (pText s a e m).2.2 = 0) : e = 0 ∧ (readText s a).2.2 = 0 ∧ ((readText s a).1.size : Int) ≤ m ∧ pText s a e m = ((readText s a).1, (readText s a).2.1, 0) := by
  unfold pText at h ⊢
  by_cases he : e = 0
  · rw [if_pos he] at h ⊢
    simp only at h ⊢
    by_cases h0 : (readText s a).2.2 = 0
    · rw [if_pos h0] at h ⊢
      by_cases hm : ((readText s a).1.size : Int) > m
      · rw [if_pos hm] at h; exact absurd h (by simp)
      · rw [if_neg hm]; exact ⟨he, h0, by omega, rfl⟩
    · rw [if_neg h0] at h; exact absurd h h0
  · rw [if_neg he] at h; exact absurd h he
/-- A number that was read stands there. -/
theorem pNum_form {s : ByteArray} {p : Nat} {e m : Int} (h : (pNum s p e m).2.2 = 0) : e = 0 ∧ ∃ n : Nat, pNum s p e m = ((n : Int), ((p + (numS n).size : Nat) : Int), 0) ∧ (n : Int) ≤ m ∧ p + (numS n).size ≤ s.size ∧ (nb s).drop p = nb (numS n) ++ (nb s).drop (p + (numS n).size) := by
  obtain ⟨he, h0, hm, hq⟩ := pNum_zero h
  obtain ⟨n, _, g1, g2, g3⟩ := readNum_form h0
  obtain ⟨_, _, k3, _, _⟩ := readNum_ok h0
  rw [g1] at hm
  rw [g2] at k3
  exact ⟨he, n, by rw [hq, g1, g2], hm, by omega, g3⟩
theorem pText_form {s : ByteArray} {p : Nat} {e m : Int} (h : (pText s p e m).2.2 = 0) : e = 0 ∧ ∃ t : ByteArray, pText s p e m = (t, ((p + ((numS t.size).size + t.size) : Nat) : Int), 0) ∧ (t.size : Int) ≤ m ∧ p + ((numS t.size).size + t.size) ≤ s.size ∧ (nb s).drop p = nb (numS t.size ++ t) ++ (nb s).drop (p + ((numS t.size).size + t.size)) := by
  obtain ⟨he, h0, hm, hq⟩ := pText_zero h
  obtain ⟨q, g1, g2, g3, g4⟩ := readText_form h0
  have eq : q = p + ((numS (readText s p).1.size).size + (readText s p).1.size) := by omega
  subst eq
  exact ⟨he, (readText s p).1, by rw [hq, g1], hm, g3, g4⟩
/-- What stands there is read. -/
theorem pNum_at {s : ByteArray} {p n : Nat} {rest : List Nat} {m : Int} (hp : p ≤ s.size) (hn : (n : Int) ≤ m) (hm : m ≤ 9000000000000000000) (h : (nb s).drop p = nb (numS n) ++ rest) : pNum s p 0 m = ((n : Int), ((p + (numS n).size : Nat) : Int), 0) := by
  unfold pNum
  rw [if_pos rfl, readNum_at s p n rest hp (by omega) h]
  simp only
  rw [if_pos trivial, if_neg (by omega)]
theorem pText_at {s t : ByteArray} {p : Nat} {rest : List Nat} {m : Int} (hp : p ≤ s.size) (hn : (t.size : Int) ≤ m) (hm : m ≤ 1000000000) (h : (nb s).drop p = nb (numS t.size ++ t) ++ rest) : pText s p 0 m = (t, ((p + ((numS t.size).size + t.size) : Nat) : Int), 0) := by
  unfold pText
  rw [if_pos rfl, readText_at s t p rest hp (by omega) h]
  simp only
  rw [if_pos trivial, if_neg (by omega)]
theorem at_end {s : ByteArray} {p : Nat} {x rest : List Nat} (hp : p ≤ s.size) (h : (nb s).drop p = x ++ rest) : p + x.length ≤ s.size ∧ (nb s).drop (p + x.length) = rest := by
  have e := congrArg List.length h
  rw [List.length_drop, nb_len, List.length_append] at e
  refine ⟨by omega, ?_⟩
  rw [← List.drop_drop, h, List.drop_left]
theorem app_nil (s : ByteArray) : s ++ (⟨#[]⟩ : ByteArray) = s := nb_inj (by rw [nb_app]; exact List.append_nil _)
theorem app_assoc (a b c : ByteArray) : a ++ b ++ c = a ++ (b ++ c) := nb_inj (by rw [nb_app, nb_app, nb_app, nb_app, List.append_assoc])
theorem size_app (a b : ByteArray) : (a ++ b).size = a.size + b.size := ByteArray.size_append
theorem toList_nil {s : ByteArray} (h : s.toList = ([] : List UInt8)) : s = ⟨#[]⟩ := by
  have : s.data.toList = [] := by rw [← h]; exact (ByteArray.toList_eq s).symm
  cases s with | mk d => simp at this; rw [this]
theorem num_ev {n : Int} (h0 : 0 ≤ n) (h1 : n < 18446744073709551616) : Ev (fun k => octet_Number.f k (IntKind.u64.wrap n)) (numS n.toNat) := by
  refine ⟨10, fun k hk => ?_⟩
  obtain ⟨m, rfl⟩ := Int.eq_ofNat_of_zero_le h0
  rw [IntWalk.u64_in _ (by omega)]
  exact oct_num m (by omega) k hk
theorem Ev.ifp {α : Type} {c : Prop} [Decidable c] {f : Nat → Option α} {r : α} (h : c) (hf : Ev f r) : Ev (fun k => if c then f k else none) r := Ev.congr (fun k => if_pos h) hf
theorem numL_ev {n : Nat} (h : n < 18446744073709551616) : Ev (fun k => octet_Number.f k (IntKind.u64.wrap (n : Int))) (numS n) := by
  have := num_ev (n := (n : Int)) (by omega) (by omega)
  rw [Int.toNat_natCast] at this
  exact this
theorem szapp {a b : ByteArray} {m n : Nat} (ha : a.size ≤ m) (hb : b.size ≤ n) : (a ++ b).size ≤ m + n := by rw [size_app]; omega
theorem fits {a b n m : Nat} (ha : a ≤ n) (hb : b ≤ m) (h : n + m ≤ 100000000) : a + b ≤ 9223372036854775807 := by omega
theorem adv {s t : ByteArray} {p : Nat} {rest : List Nat} (hp : p ≤ s.size) (h : (nb s).drop p = nb t ++ rest) : p + t.size ≤ s.size ∧ (nb s).drop (p + t.size) = rest := by
  have := at_end hp h
  rw [nb_len] at this
  exact this
/-! a snapshot, in plain Lean: which may be, its text, what a text says -/
def upS : List Int → Int → Bool
  | [], _ => true
  | m :: t, l => decide (l < m ∧ m < 7) && upS t m
def endC (d : ByteArray) : Int := if (d.size : Int) > 131072 then 2 else 0
def chkS (a b : Int) (ms : List Int) (d : ByteArray) : Int :=
  if a < 0 ∨ a > 1099511627776 ∨ b < 0 ∨ b > 1099511627776 ∨ ms.length = 0 ∨ ms.length > 7 then 1
  else if upS ms (-1) = true then endC d else 1
theorem rdI (l : List Int) (i : Nat) (h : i < l.length) : rd l (i : Int) = l[i] := by
  show l.getD i 0 = _
  rw [List.getD_eq_getElem?_getD, List.getElem?_eq_getElem h]; rfl
theorem endC_some (d : ByteArray) : (if (d.size : Int) > 131072 then some (2 : Int) else some 0) = some (endC d) := by unfold endC; split <;> rfl
theorem chk_go (a b : Int) (ms : List Int) (d : ByteArray) (hl : ms.length ≤ 7) : ∀ (t : List Int) (i : Nat) (l : Int), ms.drop i = t → i ≤ ms.length →
    Ev (fun k => shot_Check.l0 k l ms (ms.length : Int) (i : Int) a b ms d) (if upS t l = true then endC d else 1)
  | [], i, l, ht, hi => by
    have hge : ms.length ≤ i := by have := congrArg List.length ht; simp at this; omega
    refine Ev.step (f := fun _ => some (endC d)) (fun k => ?_) (by rw [upS, if_pos rfl]; exact Ev.now _)
    rw [shot_Check.l0, if_neg (by omega)]
    exact endC_some d
  | m :: t, i, l, ht, hi => by
    have hlt : i < ms.length := by have := congrArg List.length ht; simp at this; omega
    have e := List.drop_eq_getElem_cons hlt
    rw [ht] at e
    injection e with e1 e2
    have r1 : ∀ k, shot_Check.l0 (k + 1) l ms (ms.length : Int) (i : Int) a b ms d = (if m ≤ l then some 1 else if m ≥ 7 then some 1 else shot_Check.l0 k m ms (ms.length : Int) ((i + 1 : Nat) : Int) a b ms d) := fun k => by
      rw [shot_Check.l0, if_pos (by omega), if_pos (by omega), if_pos (by omega), rdI ms i hlt, w1 i (by omega), ← e1]
    have hG := chk_go a b ms d hl t (i + 1) m e2.symm (by omega)
    refine Ev.step r1 ?_
    by_cases h1 : l < m ∧ m < 7
    · rw [upS, decide_eq_true h1, Bool.true_and]
      exact Ev.congr (fun k => by rw [if_neg (by omega), if_neg (by omega)]) hG
    · rw [upS, decide_eq_false h1, Bool.false_and, if_neg (by simp)]
      refine Ev.congr (f := fun _ => some 1) (fun k => ?_) (Ev.now _)
      by_cases h2 : m ≤ l
      · rw [if_pos h2]
      · rw [if_neg h2, if_pos (by omega)]
theorem chk_ev (a b : Int) (ms : List Int) (d : ByteArray) : Ev (fun k => shot_Check.f k a b ms d) (chkS a b ms d) := by
  have bad : (a < 0 ∨ a > 1099511627776 ∨ b < 0 ∨ b > 1099511627776 ∨ ms.length = 0 ∨ ms.length > 7) → Ev (fun k => shot_Check.j0 k true a b ms d) (chkS a b ms d) := fun h => by
    unfold chkS
    rw [if_pos h]
    exact Ev.step (f := fun _ => some 1) (fun k => by rw [shot_Check.j0, if_pos rfl]) (Ev.now _)
  unfold shot_Check.f
  refine Ev.ite (fun h => bad (by omega)) (fun h1 => Ev.ite (fun h => bad (by omega)) (fun h2 => Ev.ite (fun h => bad (by omega)) (fun h3 => Ev.ite (fun h => bad (by omega)) (fun h4 => Ev.ite (fun h => bad (by omega)) (fun h5 => ?_)))))
  by_cases h6 : (ms.length : Int) > 7
  · rw [decide_eq_true h6]; exact bad (by omega)
  · rw [decide_eq_false h6]
    unfold chkS
    rw [if_neg (by omega)]
    refine Ev.step (f := fun k => shot_Check.l0 k (-1) ms (ms.length : Int) 0 a b ms d) (fun k => by rw [shot_Check.j0, if_neg (by simp)]) ?_
    exact chk_go a b ms d (by omega) ms 0 (-1) rfl (by omega)
theorem up_all : ∀ {ms : List Int} {l : Int}, upS ms l = true → ∀ m ∈ ms, l < m ∧ m < 7
  | [], _, _, m, hm => by cases hm
  | x :: t, l, h, m, hm => by
    rw [upS, Bool.and_eq_true, decide_eq_true_iff] at h
    rcases List.mem_cons.1 hm with rfl | hm
    · exact h.1
    · have := up_all h.2 m hm; omega
structure FineS (a b : Int) (ms : List Int) (d : ByteArray) : Prop where
  a0 : 0 ≤ a
  a1 : a ≤ 1099511627776
  b0 : 0 ≤ b
  b1 : b ≤ 1099511627776
  l0 : 0 < ms.length
  l1 : ms.length ≤ 7
  mem : ∀ m ∈ ms, 0 ≤ m ∧ m < 7
  dat : d.size ≤ 131072
theorem fineS {a b : Int} {ms : List Int} {d : ByteArray} (h : chkS a b ms d = 0) : FineS a b ms d := by
  unfold chkS at h
  split at h
  · cases h
  · rename_i h1
    split at h
    · rename_i h2
      unfold endC at h
      split at h
      · cases h
      · exact ⟨by omega, by omega, by omega, by omega, by omega, by omega, fun m hm => by have := up_all h2 m hm; omega, by omega⟩
    · cases h
/-! its text -/
def encM : List Int → ByteArray
  | [] => ⟨#[]⟩
  | m :: t => numS m.toNat ++ encM t
def shotT (a b : Int) (ms : List Int) (d : ByteArray) : ByteArray := ((numS a.toNat ++ numS b.toNat) ++ numS ms.length) ++ (encM ms ++ (numS d.size ++ d))
def encS (a b : Int) (ms : List Int) (d : ByteArray) : ByteArray × Int := if chkS a b ms d = 0 then (shotT a b ms d, 0) else (⟨#[]⟩, chkS a b ms d)
theorem encM_size : ∀ ms, (encM ms).size ≤ 10 * ms.length
  | [] => Nat.le_refl _
  | m :: t => by rw [encM, size_app, List.length_cons]; have := encM_size t; have := numS_size m.toNat; omega
theorem text_ev {s : ByteArray} (h : s.size ≤ 131072) : Ev (fun k => octet_Text.f k s) (numS s.size ++ s) := ⟨21, fun k hk => oct_text s (by omega) k hk⟩
theorem enc_go (a b : Int) (ms : List Int) (d : ByteArray) (hF : FineS a b ms d) : ∀ (t : List Int) (i : Nat) (s : ByteArray), ms.drop i = t → i ≤ ms.length → s.size ≤ 30 + 10 * i →
    Ev (fun k => shot_Encode.l0 k s ms (ms.length : Int) (i : Int) a b ms d) (s ++ (encM t ++ (numS d.size ++ d)), 0)
  | [], i, s, ht, hi, hs => by
    have hge : ms.length ≤ i := by have := congrArg List.length ht; simp at this; omega
    have hd := hF.dat
    have hl := hF.l1
    refine Ev.step (f := fun k => (octet_Text.f k d).bind fun t117 => (if s.size + t117.size ≤ 9223372036854775807 then (some (s ++ t117, 0)) else (none))) (fun k => by rw [shot_Encode.l0, if_neg (by omega)]) ?_
    refine Ev.bind (text_ev hd) ?_
    have e : encM [] ++ (numS d.size ++ d) = numS d.size ++ d := nb_inj (by rw [nb_app]; rfl)
    rw [e]
    exact Ev.ifp (by have := numS_size d.size; rw [size_app]; omega) (Ev.now _)
  | m :: t, i, s, ht, hi, hs => by
    have hlt : i < ms.length := by have := congrArg List.length ht; simp at this; omega
    have e := List.drop_eq_getElem_cons hlt
    rw [ht] at e
    injection e with e1 e2
    have hl := hF.l1
    have hm := hF.mem m (by rw [e1]; exact List.getElem_mem hlt)
    have r1 : ∀ k, shot_Encode.l0 (k + 1) s ms (ms.length : Int) (i : Int) a b ms d = ((octet_Number.f k (IntKind.u64.wrap m)).bind fun t116 => (if s.size + t116.size ≤ 9223372036854775807 then (shot_Encode.l0 k (s ++ t116) ms (ms.length : Int) ((i + 1 : Nat) : Int) a b ms d) else (none))) := fun k => by
      rw [shot_Encode.l0, if_pos (by omega), if_pos (by omega), if_pos (by omega), rdI ms i hlt, w1 i (by omega), ← e1]
    have z := numS_size m.toNat
    have hG := enc_go a b ms d hF t (i + 1) (s ++ numS m.toNat) e2.symm (by omega) (by rw [size_app]; omega)
    rw [app_assoc, ← app_assoc (numS m.toNat)] at hG
    exact Ev.step r1 (Ev.bind (num_ev hm.1 (by omega)) (Ev.ifp (by omega) hG))
theorem enc_ev (a b : Int) (ms : List Int) (d : ByteArray) : Ev (fun k => shot_Encode.f k a b ms d) (encS a b ms d) := by
  unfold shot_Encode.f encS
  refine Ev.bind (chk_ev a b ms d) ?_
  by_cases h : chkS a b ms d = 0
  · rw [if_pos h]
    have hF := fineS h
    have h1 := hF.a0; have h2 := hF.a1; have h3 := hF.b0; have h4 := hF.b1; have h5 := hF.l1
    have z1 := numS_size a.toNat
    have z2 := numS_size b.toNat
    have z3 := numS_size ms.length
    refine Ev.congr (fun k => if_pos h) (Ev.bind (num_ev h1 (by omega)) (Ev.bind (num_ev h3 (by omega)) (Ev.ifp (by omega) (Ev.bind (numL_ev (by omega)) (Ev.ifp (by rw [size_app]; omega) ?_)))))
    exact enc_go a b ms d hF ms 0 _ rfl (by omega) (by rw [size_app, size_app]; omega)
  · rw [if_neg h]
    exact Ev.congr (fun k => if_neg h) (Ev.now _)
/-! what a text says -/
def dMem (s : ByteArray) (m : Int) : Nat → Int → Int → List Int × Int × Int
  | 0, a, e => ([], a, e)
  | n + 1, a, e => ((pNum s a e m).1 :: (dMem s m n (pNum s a e m).2.1 (pNum s a e m).2.2).1, (dMem s m n (pNum s a e m).2.1 (pNum s a e m).2.2).2)
def noS : Int × Int × List Int × ByteArray × Int := (0, 0, [], ⟨#[]⟩, 3)
def finS (s : ByteArray) (x y : Int) (ms : List Int) (a e : Int) : Int × Int × List Int × ByteArray × Int :=
  if pEnd s (pText s a e 131072).2.1 (pText s a e 131072).2.2 = 0 then (if chkS x y ms (pText s a e 131072).1 = 0 then (x, y, ms, (pText s a e 131072).1, 0) else noS) else noS
def decS (m : Int) (s : ByteArray) : Int × Int × List Int × ByteArray × Int :=
  let p := pNum s 0 0 1099511627776
  let q := pNum s p.2.1 p.2.2 1099511627776
  let c := pNum s q.2.1 q.2.2 7
  let r := dMem s m c.1.toNat c.2.1 c.2.2
  finS s p.1 q.1 r.1 r.2.1 r.2.2
theorem end_is (s : ByteArray) (a e : Int) : ∃ q : ByteArray × Int × Int, octet_Reader_End.f s a e = some (pEnd s a e, q) := by
  unfold octet_Reader_End.f pEnd
  by_cases he : e = 0
  · rw [if_pos he, if_pos he]
    by_cases ha : a < (s.size : Int)
    · rw [if_pos ha, if_pos ha]; exact ⟨_, rfl⟩
    · rw [if_neg ha, if_neg ha]; exact ⟨_, rfl⟩
  · rw [if_neg he, if_neg he]; exact ⟨_, rfl⟩
theorem fin_ev (s : ByteArray) (hs : s.size ≤ 140737488351232) (x y : Int) (ms : List Int) (a e : Int) :
    Ev (fun k => (octet_Reader_Text.f k s a e 131072).bind fun bt195 => ((octet_Reader_End.f bt195.2.1 bt195.2.2.1 bt195.2.2.2).bind fun bt199 => (if bt199.1 = 0 then ((shot_Check.f k x y ms bt195.1).bind fun t203 => (if t203 = 0 then (some (x, y, ms, bt195.1, 0)) else (some (0, 0, ([] : List Int), (⟨#[]⟩ : ByteArray), 3)))) else (some (0, 0, ([] : List Int), (⟨#[]⟩ : ByteArray), 3))))) (finS s x y ms a e) := by
  refine Ev.bind (oct_pText s hs a e 131072) ?_
  obtain ⟨q, hq⟩ := end_is s (pText s a e 131072).2.1 (pText s a e 131072).2.2
  unfold finS
  refine Ev.congr (f := fun k => if pEnd s (pText s a e 131072).2.1 (pText s a e 131072).2.2 = 0 then ((shot_Check.f k x y ms (pText s a e 131072).1).bind fun t203 => (if t203 = 0 then (some (x, y, ms, (pText s a e 131072).1, 0)) else (some (0, 0, ([] : List Int), (⟨#[]⟩ : ByteArray), 3)))) else (some (0, 0, ([] : List Int), (⟨#[]⟩ : ByteArray), 3))) (fun k => by rw [hq]; rfl) ?_
  by_cases h0 : pEnd s (pText s a e 131072).2.1 (pText s a e 131072).2.2 = 0
  · rw [if_pos h0]
    refine Ev.congr (fun k => if_pos h0) (Ev.bind (chk_ev _ _ _ _) ?_)
    by_cases h1 : chkS x y ms (pText s a e 131072).1 = 0
    · simp only [if_pos h1]; exact Ev.now _
    · simp only [if_neg h1]; exact Ev.now _
  · rw [if_neg h0]
    exact Ev.congr (fun k => if_neg h0) (Ev.now _)
theorem dec_go (s : ByteArray) (hs : s.size ≤ 140737488351232) (x y : Int) (cnt : Nat) (hc : cnt ≤ 7) : ∀ (d i : Nat) (a e : Int) (acc : List Int), i + d = cnt → acc.length = i →
    Ev (fun k => shot_Decode.l0 k (cnt : Int) (i : Int) s a e x y acc ⟨#[]⟩) (finS s x y (acc ++ (dMem s 7 d a e).1) (dMem s 7 d a e).2.1 (dMem s 7 d a e).2.2)
  | 0, i, a, e, acc, h, hl => by
    rw [dMem, List.append_nil]
    exact Ev.step (fun k => by rw [shot_Decode.l0, if_neg (by omega)]) (fin_ev s hs x y acc a e)
  | d + 1, i, a, e, acc, h, hl => by
    have hG := dec_go s hs x y cnt hc d (i + 1) (pNum s a e 7).2.1 (pNum s a e 7).2.2 (acc ++ [(pNum s a e 7).1]) (by omega) (by rw [List.length_append, hl]; rfl)
    rw [List.append_assoc] at hG
    rw [dMem]
    have r1 : ∀ k, shot_Decode.l0 (k + 1) (cnt : Int) (i : Int) s a e x y acc ⟨#[]⟩ = _ := fun k => by rw [shot_Decode.l0, if_pos (by omega), w1 i (by omega)]
    exact Ev.step r1 (Ev.bind (oct_pInt s hs a e 7 (by omega) (by omega)) (Ev.ifp (by omega) hG))
theorem dec_ev (s : ByteArray) (hs : s.size ≤ 140737488351232) : Ev (fun k => shot_Decode.f k s) (decS 7 s) := by
  unfold shot_Decode.f decS
  simp only
  have hr := pNum_range s (pNum s (pNum s 0 0 1099511627776).2.1 (pNum s 0 0 1099511627776).2.2 1099511627776).2.1 (pNum s (pNum s 0 0 1099511627776).2.1 (pNum s 0 0 1099511627776).2.2 1099511627776).2.2 7 (by omega)
  refine Ev.bind (Ev.now (s, 0, 0)) (Ev.bind (oct_pInt s hs 0 0 1099511627776 (by omega) (by omega)) (Ev.bind (oct_pInt s hs _ _ 1099511627776 (by omega) (by omega)) (Ev.bind (oct_pInt s hs _ _ 7 (by omega) (by omega)) ?_)))
  generalize pNum s (pNum s (pNum s 0 0 1099511627776).2.1 (pNum s 0 0 1099511627776).2.2 1099511627776).2.1 (pNum s (pNum s 0 0 1099511627776).2.1 (pNum s 0 0 1099511627776).2.2 1099511627776).2.2 7 = c at hr
  obtain ⟨n, hn⟩ := Int.eq_ofNat_of_zero_le hr.1
  have e : c.1.toNat = n := by rw [hn]; rfl
  have hG := dec_go s hs (pNum s 0 0 1099511627776).1 (pNum s (pNum s 0 0 1099511627776).2.1 (pNum s 0 0 1099511627776).2.2 1099511627776).1 n (by omega) n 0 c.2.1 c.2.2 [] (by omega) rfl
  rw [e, hn]
  exact hG
theorem dec_cases (m : Int) (s : ByteArray) : decS m s = noS ∨ ∃ a b ms d, decS m s = (a, b, ms, d, 0) ∧ chkS a b ms d = 0 := by
  unfold decS finS
  simp only
  split
  · split
    · rename_i h; exact Or.inr ⟨_, _, _, _, rfl, h⟩
    · exact Or.inl rfl
  · exact Or.inl rfl
/-! what is told is read again, and a text in one form alone -/
theorem dMem_at {s : ByteArray} {rest : List Nat} : ∀ (l : List Int) (p : Nat), (∀ m ∈ l, 0 ≤ m ∧ m < 7) → p ≤ s.size → (nb s).drop p = nb (encM l) ++ rest → dMem s 7 l.length p 0 = (l, ((p + (encM l).size : Nat) : Int), 0)
  | [], p, hf, hp, h => by rw [encM]; rfl
  | m :: l, p, hf, hp, h => by
    have hm := hf m List.mem_cons_self
    rw [encM, nb_app, List.append_assoc] at h
    obtain ⟨n, hn⟩ := Int.eq_ofNat_of_zero_le hm.1
    have e1 : m.toNat = n := by rw [hn]; rfl
    rw [e1] at h
    have hN := pNum_at (m := 7) hp (by omega) (by omega) h
    obtain ⟨p1, h1⟩ := adv hp h
    have hG := dMem_at l _ (fun r hr => hf r (List.mem_cons_of_mem _ hr)) p1 h1
    rw [List.length_cons, dMem, hN]
    simp only
    rw [hG, encM, size_app, e1, ← hn, Nat.add_assoc]
theorem shotT_size {a b : Int} {ms : List Int} {d : ByteArray} (h : FineS a b ms d) : (shotT a b ms d).size ≤ 131182 := by
  have h1 := numS_size a.toNat; have h2 := numS_size b.toNat; have h3 := numS_size ms.length; have h4 := numS_size d.size; have h5 := encM_size ms
  have h6 := h.l1; have h7 := h.dat
  unfold shotT
  rw [size_app, size_app, size_app, size_app, size_app]
  omega
theorem dec_shotT {a b : Int} {ms : List Int} {d : ByteArray} (h0 : chkS a b ms d = 0) : decS 7 (shotT a b ms d) = (a, b, ms, d, 0) := by
  have hF := fineS h0
  obtain ⟨x, hx⟩ := Int.eq_ofNat_of_zero_le hF.a0
  obtain ⟨y, hy⟩ := Int.eq_ofNat_of_zero_le hF.b0
  have f1 := hF.a1; have f2 := hF.b1; have f3 := hF.l1; have f4 := hF.dat
  have ex : a.toNat = x := by rw [hx]; rfl
  have ey : b.toNat = y := by rw [hy]; rfl
  have h : (nb (shotT a b ms d)).drop 0 = nb (numS x) ++ (nb (numS y) ++ (nb (numS ms.length) ++ (nb (encM ms) ++ (nb (numS d.size ++ d) ++ [])))) := by
    rw [List.drop_zero]; unfold shotT
    rw [nb_app, nb_app, nb_app, nb_app (encM ms), List.append_nil, ex, ey]
    simp only [List.append_assoc]
  have hz : (shotT a b ms d).size = 0 + (numS x).size + (numS y).size + (numS ms.length).size + (encM ms).size + ((numS d.size).size + d.size) := by
    unfold shotT; rw [size_app, size_app, size_app, size_app (encM ms), size_app (numS d.size), ex, ey]; omega
  generalize shotT a b ms d = s at h hz
  have hN1 := pNum_at (m := 1099511627776) (Nat.zero_le _) (by omega) (by omega) h
  obtain ⟨p1, h1⟩ := adv (Nat.zero_le _) h
  have hN2 := pNum_at (m := 1099511627776) p1 (by omega) (by omega) h1
  obtain ⟨p2, h2⟩ := adv p1 h1
  have hN3 := pNum_at (m := 7) p2 (by omega) (by omega) h2
  obtain ⟨p3, h3⟩ := adv p2 h2
  have hM := dMem_at ms _ hF.mem p3 h3
  obtain ⟨p4, h4⟩ := adv p3 h3
  have hT := pText_at (m := 131072) p4 (by omega) (by omega) h4
  unfold decS
  simp only
  rw [show pNum s 0 0 1099511627776 = _ from hN1]
  simp only
  rw [hN2]
  simp only
  rw [hN3]
  simp only [Int.toNat_natCast]
  rw [hM]
  unfold finS
  simp only
  rw [hT]
  have hE : pEnd s ((0 + (numS x).size + (numS y).size + (numS ms.length).size + (encM ms).size + ((numS d.size).size + d.size) : Nat) : Int) 0 = 0 := by
    unfold pEnd; rw [if_pos rfl, if_neg (by omega)]
  rw [if_pos hE, ← hx, ← hy, if_pos h0]
theorem dMem_e0 {s : ByteArray} {m : Int} : ∀ (n : Nat) (a e : Int), (dMem s m n a e).2.2 = 0 → e = 0
  | 0, a, e, h => h
  | n + 1, a, e, h => by
    rw [dMem] at h
    exact (pNum_zero (dMem_e0 n _ _ h)).1
theorem dMem_len (s : ByteArray) (m : Int) : ∀ (n : Nat) (a e : Int), (dMem s m n a e).1.length = n
  | 0, a, e => rfl
  | n + 1, a, e => by rw [dMem, List.length_cons, dMem_len s m n]
theorem dMem_form {s : ByteArray} : ∀ (n p : Nat) (e : Int), p ≤ s.size → (dMem s 7 n p e).2.2 = 0 → ∃ q : Nat, (dMem s 7 n p e).2.1 = (q : Int) ∧ q ≤ s.size ∧ (nb s).drop p = nb (encM (dMem s 7 n p e).1) ++ (nb s).drop q
  | 0, p, e, hp, h => ⟨p, rfl, hp, by rw [dMem, encM]; rfl⟩
  | n + 1, p, e, hp, h => by
    rw [dMem] at h ⊢
    have h0 := dMem_e0 n _ _ h
    obtain ⟨he, m, m1, m2, m3, m4⟩ := pNum_form h0
    rw [m1] at h ⊢
    simp only at h ⊢
    obtain ⟨q, q1, q2, q3⟩ := dMem_form n _ 0 m3 h
    refine ⟨q, q1, q2, ?_⟩
    rw [encM, nb_app, m4, q3, List.append_assoc]
    rfl
theorem dec_form {s : ByteArray} {a b : Int} {ms : List Int} {d : ByteArray} (h : decS 7 s = (a, b, ms, d, 0)) : chkS a b ms d = 0 ∧ shotT a b ms d = s := by
  have hc : chkS a b ms d = 0 := by
    rcases dec_cases 7 s with h1 | ⟨a', b', ms', d', h1, h2⟩
    · rw [h1] at h; exact absurd (congrArg (fun x => x.2.2.2.2) h) (show ¬ (3 : Int) = 0 by decide)
    · rw [h1] at h
      simp only [Prod.mk.injEq] at h
      obtain ⟨rfl, rfl, rfl, rfl, _⟩ := h
      exact h2
  refine ⟨hc, ?_⟩
  have hF := fineS hc
  unfold decS at h
  simp only at h
  unfold finS at h
  split at h
  case isFalse => exact absurd (congrArg (fun x => x.2.2.2.2) h) (show ¬ (3 : Int) = 0 by decide)
  rename_i hE
  split at h
  case isFalse => exact absurd (congrArg (fun x => x.2.2.2.2) h) (show ¬ (3 : Int) = 0 by decide)
  simp only [Prod.mk.injEq] at h
  obtain ⟨ea, eb, em, ed, _⟩ := h
  unfold pEnd at hE
  split at hE
  case isFalse hz => exact absurd hE hz
  rename_i hz
  split at hE
  case isTrue => exact absurd hE (by decide)
  rename_i hA
  have h3 := (pText_zero hz).1
  have h2 := dMem_e0 _ _ _ h3
  have h1 := (pNum_zero h2).1
  have h0 := (pNum_zero h1).1
  obtain ⟨_, x, x1, x2, x3, x4⟩ := pNum_form (p := 0) h0
  rw [show pNum s 0 0 1099511627776 = _ from x1] at h1 h2 h3 hz hA ea eb em ed
  simp only at h1 h2 h3 hz hA ea eb em ed
  obtain ⟨_, y, y1, y2, y3, y4⟩ := pNum_form h1
  rw [y1] at h2 h3 hz hA eb em ed
  simp only at h2 h3 hz hA eb em ed
  obtain ⟨_, c, c1, c2, c3, c4⟩ := pNum_form h2
  rw [c1] at h3 hz hA em ed
  simp only [Int.toNat_natCast] at h3 hz hA em ed
  have hlen := dMem_len s 7 c ((0 + (numS x).size + (numS y).size + (numS c).size : Nat) : Int) 0
  obtain ⟨q, q1, q2, q3⟩ := dMem_form c _ 0 c3 h3
  rw [h3, q1] at hz hA ed
  obtain ⟨_, t, t1, t2, t3, t4⟩ := pText_form hz
  rw [t1] at hA ed
  simp only at hA ed
  rw [em] at hlen q3
  apply nb_inj
  have e : nb s = (nb s).drop 0 := (List.drop_zero).symm
  have hd : (nb s).drop (q + ((numS t.size).size + t.size)) = [] := List.drop_of_length_le (by rw [nb_len]; omega)
  rw [e, x4, y4, c4, q3, t4, hd, List.append_nil, ← ed]
  unfold shotT
  rw [← ea, ← eb, hlen, nb_app, nb_app, nb_app, nb_app]
  simp only [List.append_assoc]
  rfl
/-- the bytes of a wide number, the highest first -/
def wideL : Nat → Nat → List Int
  | 0, _ => []
  | w + 1, n => wideL w (n / 256) ++ [((n % 256 : Nat) : Int)]
theorem wideL_len : ∀ w n, (wideL w n).length = w := by
  intro w
  induction w with
  | zero => intro n; rfl
  | succ w ih => intro n; simp [wideL, ih]
theorem wideL_cons : ∀ w n, wideL (w + 1) n = ((n / 256 ^ w % 256 : Nat) : Int) :: wideL w n := by
  intro w
  induction w with
  | zero => intro n; simp [wideL]
  | succ w ih =>
    intro n
    rw [wideL, ih (n / 256), wideL, Nat.div_div_eq_div_mul, Nat.pow_succ', List.cons_append]
theorem set_mid (m : Nat) (v : Int) (l : List Int) : (List.replicate (m + 1) (0 : Int) ++ l).set m v = List.replicate m 0 ++ v :: l := by
  rw [List.replicate_succ']
  have h : (List.replicate m (0:Int)).length = m := List.length_replicate
  rw [List.append_assoc, List.set_append_right _ _ (by omega), h, Nat.sub_self]
  rfl
theorem pow256 (i : Nat) : 256 ^ i = 2 ^ (8 * i) := by rw [show (256:Nat) = 2 ^ 8 from rfl, ← Nat.pow_mul]
theorem oct_wide_l0 (n : Nat) (hn : n < 2 ^ 64) (w : Nat) (hw : w ≤ 8) : ∀ d i : Nat, d + i = w → ∀ k, d < k →
    octet_Wide.l0 k n w (List.replicate (w - i) 0 ++ wideL i n) w i = some (strOfNums (wideL w n), 0) := by
  intro d
  induction d with
  | zero =>
    intro i hi k hk
    obtain ⟨k, rfl⟩ : ∃ m, k = m + 1 := ⟨k - 1, by omega⟩
    simp only [octet_Wide.l0]
    obtain rfl : i = w := by omega
    rw [if_neg (by omega)]; simp
  | succ d ih =>
    intro i hi k hk
    obtain ⟨k, rfl⟩ : ∃ m, k = m + 1 := ⟨k - 1, by omega⟩
    simp only [octet_Wide.l0]
    have e1 : wrap64 (8 * (i : Int)) = 8 * i := IntWalk.wrap64_in _ (by omega)
    have e2 : wrap64 ((w : Int) - 1) = w - 1 := IntWalk.wrap64_in _ (by omega)
    have e3 : wrap64 ((w : Int) - 1 - i) = ((w - 1 - i : Nat) : Int) := by rw [IntWalk.wrap64_in _ (by omega)]; omega
    have e4 : wrap64 ((i : Int) + 1) = ((i + 1 : Nat) : Int) := by rw [IntWalk.wrap64_in _ (by omega)]; omega
    rw [e1, e2, e3, e4, if_pos (by omega), if_pos (by omega), if_pos (by omega), if_pos (by simp [wideL_len]; omega)]
    have e5 : shr .u64 (n : Int) (8 * (i : Int)) % 256 = ((n / 256 ^ i % 256 : Nat) : Int) := by
      unfold shr
      rw [show min (8 * (i : Int)).toNat IntKind.u64.bits = 8 * i from by simp [IntKind.bits]; omega, pow256]
      simp
    rw [e5, Int.toNat_natCast, show w - i = (w - 1 - i) + 1 from by omega, set_mid, ← wideL_cons, show w - 1 - i = w - (i + 1) from by omega]
    exact ih (i + 1) (by omega) k (by omega)
def wideS (n w : Nat) : ByteArray := strOfNums (wideL w n)
theorem wideS_size (n w : Nat) : (wideS n w).size = w := by unfold wideS; rw [strOfNums_size, wideL_len]
/-- a number in so many bytes, or that it can't be -/
def wide (n : Nat) (w : Int) : ByteArray × Int := if w < 1 ∨ 8 < w ∨ n / 256 ^ w.toNat ≠ 0 then (⟨#[]⟩, 1) else (wideS n w.toNat, 0)
theorem oct_wide (n : Nat) (hn : n < 2 ^ 64) (w : Int) (k : Nat) (hk : 11 ≤ k) : octet_Wide.f k n w = some (wide n w) := by
  obtain ⟨k, rfl⟩ : ∃ m, k = m + 1 := ⟨k - 1, by omega⟩
  unfold octet_Wide.f wide
  by_cases h1 : w < 1
  · rw [if_pos h1, if_pos (.inl h1)]; simp [octet_Wide.j0]
  · rw [if_neg h1]
    by_cases h2 : 8 < w
    · rw [if_pos h2, if_pos (.inr (.inl h2))]; simp [octet_Wide.j0]
    · rw [if_neg h2]
      obtain ⟨w, rfl⟩ := Int.eq_ofNat_of_zero_le (show 0 ≤ w by omega)
      have fin : ∀ b : Bool, (b = true ↔ n / 256 ^ w ≠ 0) → octet_Wide.j0 (k + 1) n w b = some (if (w : Int) < 1 ∨ 8 < (w : Int) ∨ n / 256 ^ (w : Int).toNat ≠ 0 then (⟨#[]⟩, 1) else (wideS n (w : Int).toNat, 0)) := by
        intro b hb
        simp only [octet_Wide.j0]
        rw [Int.toNat_natCast]
        by_cases h3 : n / 256 ^ w = 0
        · have hb' : ¬ b = true := fun e => hb.1 e h3
          rw [if_neg hb', if_pos (Int.natCast_nonneg _), if_pos (by omega), if_neg (fun h => h.elim h1 fun h => h.elim h2 fun h => h h3)]
          have := oct_wide_l0 n hn w (by omega) w 0 (by omega) k (by omega)
          simpa [wideL, wideS] using this
        · rw [if_pos (hb.2 h3), if_pos (.inr (.inr h3))]
      by_cases h3 : (w : Int) < 8
      · rw [if_pos h3]
        have e1 : wrap64 (8 * (w : Int)) = 8 * w := IntWalk.wrap64_in _ (by omega)
        rw [e1, if_pos (by omega)]
        apply fin
        unfold shr
        rw [show min (8 * (w : Int)).toNat IntKind.u64.bits = 8 * w from by simp [IntKind.bits]; omega, pow256]
        rw [bne_iff_ne]
        have : ((n : Int) / 2 ^ (8 * w)) = ((n / 2 ^ (8 * w) : Nat) : Int) := by simp
        rw [this]; omega
      · rw [if_neg h3]
        apply fin
        obtain rfl : w = 8 := by omega
        have : n / 256 ^ 8 = 0 := Nat.div_eq_of_lt (by omega)
        simp [this]
/-- a wide number that stands in bytes -/
def rwide (s : ByteArray) (p : Nat) : Nat → Nat
  | 0 => 0
  | i + 1 => rwide s p i * 256 + (bt s ((p + i : Nat) : Int)).toNat
theorem rwide_lt (s : ByteArray) (p : Nat) : ∀ i, rwide s p i < 256 ^ i := by
  intro i
  induction i with
  | zero => simp [rwide]
  | succ i ih =>
    have := bt_range s ((p + i : Nat) : Int)
    simp only [rwide]
    rw [Nat.pow_succ]; omega
theorem oct_rwide_l0 (s : ByteArray) (hs : s.size ≤ 1152921504606846976) (p w : Nat) (hw : w ≤ 8) (hp : p + w ≤ s.size) : ∀ d i : Nat, d + i = w → ∀ k, d < k →
    octet_ReadWide.l0 k s p w (rwide s p i : Nat) w i = some (((rwide s p w : Nat) : Int), ((p + w : Nat) : Int), 0) := by
  intro d
  induction d with
  | zero =>
    intro i hi k hk
    obtain ⟨k, rfl⟩ : ∃ m, k = m + 1 := ⟨k - 1, by omega⟩
    simp only [octet_ReadWide.l0]
    obtain rfl : i = w := by omega
    rw [if_neg (by omega), IntWalk.wrap64_in _ (by omega)]; simp
  | succ d ih =>
    intro i hi k hk
    obtain ⟨k, rfl⟩ : ∃ m, k = m + 1 := ⟨k - 1, by omega⟩
    simp only [octet_ReadWide.l0]
    have e1 : wrap64 ((p : Int) + i) = ((p + i : Nat) : Int) := by rw [IntWalk.wrap64_in _ (by omega)]; omega
    have e4 : wrap64 ((i : Int) + 1) = ((i + 1 : Nat) : Int) := by rw [IntWalk.wrap64_in _ (by omega)]; omega
    rw [e1, e4, if_pos (by omega), if_pos (by omega), if_pos (by omega)]
    have hb := bt_range s ((p + i : Nat) : Int)
    have hr := rwide_lt s p i
    have h7 : 256 ^ i ≤ 256 ^ 7 := Nat.pow_le_pow_right (by decide) (by omega)
    have e5 : Go.bits .or .u64 (IntKind.u64.wrap (((rwide s p i : Nat) : Int) * 256)) (IntKind.u64.wrap (bt s ((p + i : Nat) : Int))) = ((rwide s p (i + 1) : Nat) : Int) := by
      rw [IntWalk.u64_in _ (by omega), IntWalk.u64_in _ (by omega)]
      rw [bits_join .u64 64 (by decide) (wraps_u64 64 (by decide)) 8 _ _ (by omega) (by omega) (by omega) (by omega) (by omega) (by omega)]
      simp only [rwide]; omega
    rw [e5]
    exact ih (i + 1) (by omega) k (by omega)
def readWide (s : ByteArray) (a w : Int) : Int × Int × Int :=
  if w < 1 ∨ 8 < w ∨ a < 0 ∨ (s.size : Int) < a then (0, 0, 1) else if (s.size : Int) - a < w then (0, 0, 5) else (((rwide s a.toNat w.toNat : Nat) : Int), a + w, 0)
theorem oct_rwide (s : ByteArray) (hs : s.size ≤ 1152921504606846976) (a w : Int) (k : Nat) (hk : 11 ≤ k) : octet_ReadWide.f k s a w = some (readWide s a w) := by
  obtain ⟨k, rfl⟩ : ∃ m, k = m + 1 := ⟨k - 1, by omega⟩
  unfold octet_ReadWide.f readWide
  by_cases h1 : w < 1
  · rw [if_pos h1, if_pos (.inl h1)]; simp [octet_ReadWide.j0]
  by_cases h2 : 8 < w
  · rw [if_neg h1, if_pos h2, if_pos (.inr (.inl h2))]; simp [octet_ReadWide.j0]
  by_cases h3 : a < 0
  · rw [if_neg h1, if_neg h2, if_pos h3, if_pos (.inr (.inr (.inl h3)))]; simp [octet_ReadWide.j0]
  by_cases h4 : (s.size : Int) < a
  · rw [if_neg h1, if_neg h2, if_neg h3, if_pos (.inr (.inr (.inr h4)))]; simp [octet_ReadWide.j0, h4]
  rw [if_neg h1, if_neg h2, if_neg h3, if_neg (by omega)]
  simp only [octet_ReadWide.j0]
  rw [if_neg (by simp; omega), IntWalk.wrap64_in ((s.size : Int) - a) (by omega)]
  by_cases h5 : (s.size : Int) - a < w
  · rw [if_pos h5, if_pos h5]
  · rw [if_neg h5, if_neg h5]
    obtain ⟨w, rfl⟩ := Int.eq_ofNat_of_zero_le (show 0 ≤ w by omega)
    obtain ⟨p, rfl⟩ := Int.eq_ofNat_of_zero_le (show 0 ≤ a by omega)
    have := oct_rwide_l0 s hs p w (by omega) (by omega) w 0 (by omega) k (by omega)
    simpa [rwide] using this
/-- one bit of a sum -/
def st1 (x : Nat) : Nat := (x / 2) ^^^ (if x % 2 = 1 then 3988292384 else 0)
def stN : Nat → Nat → Nat
  | 0, x => x
  | n + 1, x => stN n (st1 x)
/-- bytes taken into a sum -/
def crc (x : Nat) (l : List Nat) : Nat := l.foldl (fun x b => stN 8 (x ^^^ b)) x
theorem crc_app (x : Nat) (a b : List Nat) : crc x (a ++ b) = crc (crc x a) b := by simp [crc]
theorem st1_lt {x : Nat} (h : x < 2 ^ 32) : st1 x < 2 ^ 32 := by
  unfold st1
  exact Nat.xor_lt_two_pow (by omega) (by split <;> decide)
theorem stN_lt : ∀ (n : Nat) {x : Nat}, x < 2 ^ 32 → stN n x < 2 ^ 32 := by
  intro n
  induction n with
  | zero => intro x h; exact h
  | succ n ih => intro x h; exact ih (st1_lt h)
theorem crc_lt : ∀ (l : List Nat), (∀ b ∈ l, b < 256) → ∀ {x : Nat}, x < 2 ^ 32 → crc x l < 2 ^ 32 := by
  intro l
  induction l with
  | nil => intro _ x h; exact h
  | cons b l ih =>
    intro hl x h
    have hb : b < 256 := hl b (by simp)
    exact ih (fun c hc => hl c (by simp [hc])) (stN_lt 8 (Nat.xor_lt_two_pow h (by omega)))
theorem wraps_u32 (n : Int) (h₀ : 0 ≤ n) (h₁ : n < 2 ^ 32) : IntKind.u32.wrap n = n := by rw [IntKind.wrap_u32]; omega
theorem bits_xor_nat (k : IntKind) (j : Nat) (hj : j ≤ k.bits) (hk : ∀ n : Int, 0 ≤ n → n < 2 ^ j → k.wrap n = n) (a b : Nat) (ha : a < 2 ^ j) (hb : b < 2 ^ j) :
    Go.bits .xor k a b = ((a ^^^ b : Nat) : Int) := by
  have hp : 2 ^ j ≤ 2 ^ k.bits := Nat.pow_le_pow_right (by decide) hj
  have ha' : a % 2 ^ k.bits = a := Nat.mod_eq_of_lt (Nat.lt_of_lt_of_le ha hp)
  have hb' : b % 2 ^ k.bits = b := Nat.mod_eq_of_lt (Nat.lt_of_lt_of_le hb hp)
  simp only [bits, BitVec.ofInt_natCast, BitVec.toNat_xor, BitVec.toNat_ofNat, ha', hb']
  exact hk _ (Int.natCast_nonneg _) (by exact_mod_cast Nat.xor_lt_two_pow ha hb)
theorem xor_u32 (a b : Nat) (ha : a < 2 ^ 32) (hb : b < 2 ^ 32) : Go.bits .xor .u32 a b = ((a ^^^ b : Nat) : Int) :=
  bits_xor_nat .u32 32 (by decide) wraps_u32 a b ha hb
theorem not_u32 (a : Nat) (ha : a < 2 ^ 32) : Go.bits .xor .u32 4294967295 a = ((4294967295 - a : Nat) : Int) := by
  have h := xor_u32 4294967295 a (by decide) ha
  have e : (4294967295 : Nat) ^^^ a = 4294967295 - a := by
    have hv : a = (BitVec.ofNat 32 a).toNat := by simp; omega
    have h3 : (~~~ (BitVec.ofNat 32 a)).toNat = 4294967295 - a := by rw [BitVec.toNat_not, ← hv]
    have h4 : (BitVec.allOnes 32 ^^^ BitVec.ofNat 32 a).toNat = 4294967295 ^^^ a := by rw [BitVec.toNat_xor, ← hv]; rfl
    rw [← h4, ← h3, BitVec.allOnes_xor]
  rw [← e]; exact h
theorem oct_step (x : Nat) (hx : x < 2 ^ 32) : Go.bits .xor .u32 ((x : Int) / 2) (Go.bits .and .u32 3988292384 ((-(Go.bits .and .u32 x 1)) % 4294967296)) = ((st1 x : Nat) : Int) := by
  have h1 : Go.bits .and .u32 (x : Int) 1 = ((x % 2 : Nat) : Int) := by
    have := bits_mask .u32 32 (by decide) (fun n h0 h1 => wraps_u32 n h0 h1) 1 (by decide) (x : Int) (by omega) (by omega)
    rw [show ((2 : Int) ^ 1 - 1) = 1 from rfl] at this
    rw [this]; omega
  rw [h1]
  have h2 : Go.bits .and .u32 3988292384 ((-((x % 2 : Nat) : Int)) % 4294967296) = (((if x % 2 = 1 then 3988292384 else 0 : Nat) : Nat) : Int) := by
    by_cases h : x % 2 = 1
    · rw [if_pos h, h]; decide +kernel
    · rw [if_neg h, show x % 2 = 0 by omega]; decide +kernel
  rw [h2, show (x : Int) / 2 = ((x / 2 : Nat) : Int) by omega, xor_u32 _ _ (by omega) (by split <;> decide)]
  rfl
theorem byte_in (x : Nat) (hx : x < 2 ^ 32) (s : ByteArray) (i : Int) : Go.bits .xor .u32 x ((bt s i) % 4294967296) = ((x ^^^ (bt s i).toNat : Nat) : Int) := by
  have hb := bt_range s i
  rw [show (bt s i) % 4294967296 = (((bt s i).toNat : Nat) : Int) by omega, xor_u32 _ _ hx (by omega)]
theorem oct_l1 (s : ByteArray) (n i : Int) : ∀ d : Nat, d ≤ 8 → ∀ (x k : Nat), x < 2 ^ 32 → d < k → frame_more.l1 k x s n i ((8 - d : Nat) : Int) = frame_more.l0 (k - d - 1) (stN d x : Nat) s n (wrap64 (i + 1)) := by
  intro d
  induction d with
  | zero =>
    intro _ x k _ hk
    obtain ⟨k, rfl⟩ : ∃ m, k = m + 1 := ⟨k - 1, by omega⟩
    simp only [frame_more.l1]
    rw [if_neg (by omega)]; rfl
  | succ d ih =>
    intro hd x k hx hk
    obtain ⟨k, rfl⟩ : ∃ m, k = m + 1 := ⟨k - 1, by omega⟩
    simp only [frame_more.l1]
    rw [if_pos (by omega), oct_step x hx, show wrap64 (((8 - (d + 1) : Nat) : Int) + 1) = ((8 - d : Nat) : Int) by rw [IntWalk.wrap64_in _ (by omega)]; omega]
    rw [ih (by omega) _ k (st1_lt hx) (by omega)]
    rw [show k + 1 - (d + 1) - 1 = k - d - 1 by omega]
    rfl
theorem oct_more_l0 (s : ByteArray) (hs : s.size ≤ 1152921504606846976) : ∀ d i : Nat, d + i = s.size → ∀ (x k : Nat), x < 2 ^ 32 → 10 * d < k → frame_more.l0 k x s s.size i = some ((crc x ((nb s).drop i) : Nat) : Int) := by
  intro d
  induction d with
  | zero =>
    intro i hi x k hx hk
    obtain ⟨k, rfl⟩ : ∃ m, k = m + 1 := ⟨k - 1, by omega⟩
    simp only [frame_more.l0]
    rw [if_neg (by omega), List.drop_eq_nil_of_le (by rw [nb_len]; omega)]; rfl
  | succ d ih =>
    intro i hi x k hx hk
    obtain ⟨k, rfl⟩ : ∃ m, k = m + 1 := ⟨k - 1, by omega⟩
    have hb := bt_range s i
    simp only [frame_more.l0]
    rw [if_pos (by omega), if_pos (by omega), if_pos (by omega), byte_in x hx]
    rw [show (0 : Int) = ((8 - 8 : Nat) : Int) from rfl, oct_l1 s _ _ 8 (by omega) _ k (Nat.xor_lt_two_pow hx (by omega)) (by omega)]
    rw [show wrap64 ((i : Int) + 1) = ((i + 1 : Nat) : Int) by rw [IntWalk.wrap64_in _ (by omega)]; omega]
    rw [ih (i + 1) (by omega) _ _ (stN_lt 8 (Nat.xor_lt_two_pow hx (by omega))) (by omega)]
    rw [nb_bt s i (by omega)]
    rfl
theorem oct_more (s : ByteArray) (hs : s.size ≤ 1152921504606846976) (x k : Nat) (hx : x < 2 ^ 32) (hk : 10 * s.size < k) : frame_more.f k x s = some ((crc x (nb s) : Nat) : Int) := by
  have := oct_more_l0 s hs s.size 0 (by omega) x k hx hk
  simpa [frame_more.f] using this
/-- bytes' sum -/
def sumOf (l : List Nat) : Nat := 4294967295 - crc 4294967295 l
theorem sumOf_lt (l : List Nat) : sumOf l < 2 ^ 32 := by unfold sumOf; omega
/-- a body's frame -/
def frameS (s : ByteArray) : ByteArray := (wideS s.size 4 ++ wideS (sumOf (nb (wideS s.size 4 ++ s))) 4) ++ s
theorem frameS_size (s : ByteArray) : (frameS s).size = 8 + s.size := by simp [frameS, ByteArray.size_append, wideS_size]
theorem wide4 (n : Nat) (h : n < 2 ^ 32) : wide n 4 = (wideS n 4, 0) := by
  unfold wide
  rw [if_neg (fun hh => by rcases hh with hh | hh | hh <;> simp at hh; omega)]
  rfl
theorem oct_frame (s : ByteArray) (k : Nat) (hk : 2621540 < k) : frame_Frame.f k s = some (if 262144 < s.size then (⟨#[]⟩, 2) else (frameS s, 0)) := by
  unfold frame_Frame.f
  by_cases h : 262144 < s.size
  · rw [if_pos (by omega), if_pos h]
  · rw [if_neg (by omega), if_neg h]
    rw [IntWalk.u64_in _ (by omega), oct_wide s.size (by omega) 4 k (by omega), wide4 _ (by omega)]
    simp only [Option.bind_some]
    have hw := wideS_size s.size 4
    rw [show (4294967295 : Int) = ((4294967295 : Nat) : Int) from rfl, oct_more _ (by omega) _ k (by decide) (by omega)]
    simp only [Option.bind_some]
    have hl1 := crc_lt _ (nb_lt (wideS s.size 4)) (x := 4294967295) (by decide)
    rw [oct_more s (by omega) _ k hl1 (by omega)]
    simp only [Option.bind_some]
    rw [← crc_app, ← nb_app]
    have hl2 := crc_lt _ (nb_lt (wideS s.size 4 ++ s)) (x := 4294967295) (by decide)
    rw [show ((4294967295 : Nat) : Int) = (4294967295 : Int) from rfl, not_u32 _ hl2, IntWalk.u64_in _ (by omega), oct_wide _ (by omega) 4 k (by omega), wide4 _ (by omega)]
    simp only [Option.bind_some]
    rw [if_pos (by rw [wideS_size, wideS_size]; omega), if_pos (by rw [ByteArray.size_append, wideS_size, wideS_size]; omega)]
    rfl
/-- the frame that stands at a place, or what is wrong there -/
def unframeN (s : ByteArray) (p : Nat) : ByteArray × Int × Int :=
  if s.size - p < 4 then (⟨#[]⟩, 0, 5)
  else if 262144 < rwide s p 4 then (⟨#[]⟩, 0, 2)
  else if s.size - (p + 4) < 4 + rwide s p 4 then (⟨#[]⟩, 0, 5)
  else if rwide s (p + 4) 4 = sumOf (nb (s.extract p (p + 4) ++ s.extract (p + 8) (p + 8 + rwide s p 4))) then
    (s.extract (p + 8) (p + 8 + rwide s p 4), ((p + 8 + rwide s p 4 : Nat) : Int), 0)
  else (⟨#[]⟩, 0, 10)
def unframe (s : ByteArray) (a : Int) : ByteArray × Int × Int := if a < 0 ∨ (s.size : Int) < a then (⟨#[]⟩, 0, 1) else unframeN s a.toNat
theorem readWide4 (s : ByteArray) (p : Nat) (hp : p ≤ s.size) : readWide s p 4 = if s.size - p < 4 then (0, 0, 5) else (((rwide s p 4 : Nat) : Int), ((p + 4 : Nat) : Int), 0) := by
  unfold readWide
  rw [if_neg (by omega)]
  by_cases h : s.size - p < 4
  · rw [if_pos (by omega), if_pos h]
  · rw [if_neg (by omega), if_neg h]; rfl
theorem cmp_sum (r c : Nat) (hr : r < 256 ^ 4) : ((r : Int) % 4294967296 = (c : Int)) ↔ r = c := by omega
theorem oct_unframe (s : ByteArray) (hs : s.size ≤ 1152921504606846976) (a : Int) (k : Nat) (hk : 10 * s.size + 100 < k) : frame_Unframe.f k s a = some (unframe s a) := by
  unfold frame_Unframe.f unframe
  rw [oct_rwide s hs a 4 k (by omega)]
  simp only [Option.bind_some]
  by_cases ha : a < 0 ∨ (s.size : Int) < a
  · have : readWide s a 4 = (0, 0, 1) := by unfold readWide; rw [if_pos (by omega)]
    rw [this, if_pos ha]; simp
  · rw [if_neg ha]
    obtain ⟨p, rfl⟩ := Int.eq_ofNat_of_zero_le (show 0 ≤ a by omega)
    rw [readWide4 s p (by omega), Int.toNat_natCast]
    unfold unframeN
    by_cases h1 : s.size - p < 4
    · rw [if_pos h1, if_pos h1]; simp
    · rw [if_neg h1, if_neg h1]
      simp only [if_true]
      have hr := rwide_lt s p 4
      by_cases h2 : 262144 < rwide s p 4
      · rw [if_pos (by omega), if_pos h2]
      · rw [if_neg (by omega), if_neg h2]
        have w1 : wrap64 ((s.size : Int) - ((p + 4 : Nat) : Int)) = (s.size : Int) - ((p + 4 : Nat) : Int) := IntWalk.wrap64_in _ (by omega)
        have w2 : wrap64 ((rwide s p 4 : Nat) : Int) = ((rwide s p 4 : Nat) : Int) := IntWalk.wrap64_in _ (by omega)
        rw [w1, w2, IntWalk.wrap64_in (4 + _) (by omega)]
        by_cases h3 : s.size - (p + 4) < 4 + rwide s p 4
        · rw [if_pos (by omega), if_pos h3]
        · rw [if_neg (by omega), if_neg h3]
          have hh : octet_ReadWide.f k s ((p + 4 : Nat) : Int) 4 = some (((rwide s (p + 4) 4 : Nat) : Int), ((p + 4 + 4 : Nat) : Int), 0) := by
            rw [oct_rwide s hs _ 4 k (by omega), readWide4 s (p + 4) (by omega), if_neg (by omega)]
          rw [hh, Option.bind_some]
          have hr2 := rwide_lt s (p + 4) 4
          generalize rwide s (p + 4) 4 = sm at hr2 ⊢
          dsimp only
          have w3 : wrap64 (((p + 4 + 4 : Nat) : Int) + ((rwide s p 4 : Nat) : Int)) = ((p + 8 + rwide s p 4 : Nat) : Int) := by rw [IntWalk.wrap64_in _ (by omega)]; omega
          rw [w3, if_pos (by omega), if_pos (by omega), if_pos (by omega), if_pos (by omega), if_pos (by omega), if_pos (by omega)]
          simp only [Int.toNat_natCast]
          have hz1 : (s.extract p (p + 4)).size = 4 := by rw [ByteArray.size_extract]; omega
          have hz2 : (s.extract (p + 4 + 4) (p + 8 + rwide s p 4)).size = rwide s p 4 := by rw [ByteArray.size_extract]; omega
          rw [show (4294967295 : Int) = ((4294967295 : Nat) : Int) from rfl, oct_more _ (by omega) _ k (by decide) (by omega)]
          simp only [Option.bind_some]
          have hl1 := crc_lt _ (nb_lt (s.extract p (p + 4))) (x := 4294967295) (by decide)
          rw [oct_more _ (by omega) _ k hl1 (by omega)]
          simp only [Option.bind_some]
          rw [← crc_app, ← nb_app]
          have hl2 := crc_lt _ (nb_lt (s.extract p (p + 4) ++ s.extract (p + 4 + 4) (p + 8 + rwide s p 4))) (x := 4294967295) (by decide)
          rw [show ((4294967295 : Nat) : Int) = (4294967295 : Int) from rfl, not_u32 _ hl2]
          have e8 : p + 4 + 4 = p + 8 := by omega
          simp only [e8]
          have hc := cmp_sum sm (sumOf (nb (s.extract p (p + 4) ++ s.extract (p + 8) (p + 8 + rwide s p 4)))) hr2
          unfold sumOf at hc ⊢
          by_cases h4 : sm = 4294967295 - crc 4294967295 (nb (s.extract p (p + 4) ++ s.extract (p + 8) (p + 8 + rwide s p 4)))
          · rw [if_pos (hc.2 h4), if_pos h4]
          · rw [if_neg (fun h => h4 (hc.1 h)), if_neg h4]
theorem wideL_range : ∀ w n, ∀ x ∈ wideL w n, 0 ≤ x ∧ x < 256 := by
  intro w
  induction w with
  | zero => intro n x hx; cases hx
  | succ w ih =>
    intro n x hx
    rcases List.mem_append.1 hx with hx | hx
    · exact ih _ x hx
    · simp only [List.mem_singleton] at hx
      omega
def wideN (n w : Nat) : List Nat := (wideL w n).map Int.toNat
theorem nb_wideS (n w : Nat) : nb (wideS n w) = wideN n w := nb_strOf _ (wideL_range w n)
theorem wideN_len (n w : Nat) : (wideN n w).length = w := by simp [wideN, wideL_len]
/-- the number that bytes say -/
def rdw (l : List Nat) : Nat := l.foldl (fun x b => x * 256 + b) 0
theorem rdw_snoc (l : List Nat) (b : Nat) : rdw (l ++ [b]) = rdw l * 256 + b := by simp [rdw]
theorem rdw_wide : ∀ w n, n < 256 ^ w → rdw (wideN n w) = n := by
  intro w
  induction w with
  | zero => intro n h; simp [wideN, wideL, rdw]; omega
  | succ w ih =>
    intro n h
    have e : wideN n (w + 1) = wideN (n / 256) w ++ [n % 256] := by simp [wideN, wideL]; omega
    rw [e, rdw_snoc, ih _ (by rw [Nat.pow_succ] at h; exact Nat.div_lt_of_lt_mul (by omega))]
    omega
theorem rwide_rdw (s : ByteArray) (p : Nat) : ∀ w, p + w ≤ s.size → rwide s p w = rdw (((nb s).drop p).take w) := by
  intro w
  induction w with
  | zero => intro _; rfl
  | succ w ih =>
    intro h
    have h1 := nb_bt s (p + w) (by omega)
    have e : ((nb s).drop p).take (w + 1) = ((nb s).drop p).take w ++ [(bt s ((p + w : Nat) : Int)).toNat] := by
      rw [List.take_add_one, List.getElem?_drop]
      have : (nb s)[p + w]? = some (bt s ((p + w : Nat) : Int)).toNat := by
        have h2 := congrArg (fun l => l[0]?) h1
        simpa using h2
      rw [this]; rfl
    rw [rwide, ih (by omega), e, rdw_snoc]
def frameN (b : List Nat) : List Nat := wideN b.length 4 ++ wideN (sumOf (wideN b.length 4 ++ b)) 4 ++ b
theorem nb_frameS (s : ByteArray) : nb (frameS s) = frameN (nb s) := by
  simp only [frameS, frameN, nb_app, nb_wideS, nb_len]
theorem frameN_len (b : List Nat) : (frameN b).length = 8 + b.length := by simp [frameN, wideN_len]; omega
/-- what is framed is found -/
theorem unframe_frame (s b : ByteArray) (p : Nat) (post : List Nat) (hp : p ≤ s.size) (hb : b.size ≤ 262144) (h : (nb s).drop p = frameN (nb b) ++ post) : unframeN s p = (b, ((p + (8 + b.size) : Nat) : Int), 0) := by
  have hl := congrArg List.length h
  rw [List.length_drop, nb_len, List.length_append, frameN_len, nb_len] at hl
  have hw := wideN_len b.size 4
  have hw2 := wideN_len (sumOf (wideN b.size 4 ++ nb b)) 4
  have hfr : frameN (nb b) = wideN b.size 4 ++ (wideN (sumOf (wideN b.size 4 ++ nb b)) 4 ++ nb b) := by simp [frameN, nb_len]
  have r1 : rwide s p 4 = b.size := by
    rw [rwide_rdw s p 4 (by omega), h, hfr, List.append_assoc, List.take_append_of_le_length (by omega), List.take_of_length_le (by omega), rdw_wide 4 _ (by omega)]
  have r2 : rwide s (p + 4) 4 = sumOf (wideN b.size 4 ++ nb b) := by
    rw [rwide_rdw s (p + 4) 4 (by omega), ← List.drop_drop, h, hfr, List.append_assoc, List.drop_append_of_le_length (by omega), List.drop_of_length_le (by omega), List.nil_append, List.append_assoc,
      List.take_append_of_le_length (by omega), List.take_of_length_le (by omega), rdw_wide 4 _ (sumOf_lt _)]
  have eb : s.extract (p + 8) (p + 8 + b.size) = b := by
    apply nb_inj
    rw [nb_extract, show p + 8 + b.size - (p + 8) = b.size by omega, ← List.drop_drop, h, hfr, List.append_assoc]
    rw [show (8 : Nat) = 4 + 4 from rfl, ← List.drop_drop, List.drop_append_of_le_length (by omega), List.drop_of_length_le (l := wideN b.size 4) (by omega), List.nil_append, List.append_assoc, List.drop_append_of_le_length (by omega), List.drop_of_length_le (by omega), List.nil_append,
      List.take_append_of_le_length (by rw [nb_len]; exact Nat.le_refl _), List.take_of_length_le (by rw [nb_len]; exact Nat.le_refl _)]
  have eh : nb (s.extract p (p + 4)) = wideN b.size 4 := by
    rw [nb_extract, h, hfr, List.append_assoc, show p + 4 - p = 4 by omega, List.take_append_of_le_length (by omega), List.take_of_length_le (by omega)]
  unfold unframeN
  rw [r1, if_neg (by omega), if_neg (by omega), if_neg (by omega), r2, eb, nb_app, eh, if_pos rfl]
  rw [show p + 8 + b.size = p + (8 + b.size) by omega]
end Go.Proofs.Ythjfofgcikfepaa.Q
