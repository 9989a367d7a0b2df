
/- Frames, pieces, an extent's file: in plain Lean, and that the program answers it. -/
import Derived.Outline
import Derived.Test.YtpgbkeaaklglkaaGreatDoorX0
import Derived.Test.YtpgbkeaaklglkaaGreatDoorXa
import Derived.Test.YtpgbkeaaklglkaaGreatDoorXp
import Derived.Test.YtpgbkeaaklglkaaGreatDoorLay2
import Derived.Test.YtpgbkeaaklglkaaGreatDoorDt
namespace Go.Proofs.YtpgbkeaaklglkaaGreatDoor.Q
open Go.Maps Go.WideShapes Go.WideMaps Go.RowKit Go.Proofs.YtpgbkeaaklglkaaGreatDoorW.PrintWords Go.Proofs.YtpgbkeaaklglkaaGreatDoorW.PrintLast Go.Proofs.YtpgbkeaaklglkaaGreatDoorW.PrintMore
set_option linter.unusedVariables false
set_option linter.unusedSimpArgs false
set_option maxHeartbeats 10000000
set_option maxRecDepth 100000
def nb (s : ByteArray) : List Nat := s.data.toList.map UInt8.toNat
theorem nb_lt (s : ByteArray) : ∀ b ∈ nb s, b < 256 := by
 intro b hb
 simp only [nb, List.mem_map] at hb
 obtain ⟨c, _, rfl⟩ := hb
 exact c.toNat_lt
theorem nb_len (s : ByteArray) : (nb s).length = s.size := by simp [nb]
theorem nb_app (a b : ByteArray) : nb (a ++ b) = nb a ++ nb b := by simp [nb, ByteArray.data_append]
theorem nb_bt (s : ByteArray) (i : Nat) (h : i < s.size) : (nb s).drop i = (bt s i).toNat :: (nb s).drop (i + 1) := by
 have h' : i < (nb s).length := by rw [nb_len]; exact h
 rw [List.drop_eq_getElem_cons h']
 congr 1
 unfold bt
 rw [dif_pos (by simpa using h)]
 simp only [nb, List.getElem_map, Int.toNat_natCast, Array.getElem_toList]
 rfl
theorem nb_inj {a b : ByteArray} (h : nb a = nb b) : a = b := by
 apply ByteArray.ext
 apply Array.toList_inj.1
 exact (List.map_inj_right (f := UInt8.toNat) (fun x y hxy => UInt8.toNat_inj.1 hxy)).1 h
theorem nb_extract (s : ByteArray) (a b : Nat) : nb (s.extract a b) = ((nb s).drop a).take (b - a) := by
 simp [nb, ByteArray.data_extract, List.map_take, List.map_drop, List.extract_eq_take_drop]
theorem nb_strOf (l : List Int) (h : ∀ x ∈ l, 0 ≤ x ∧ x < 256) : nb (strOfNums l) = l.map Int.toNat := by
 simp only [nb, strOfNums, List.map_map]
 apply List.map_congr_left
 intro x hx
 have := h x hx
 simp only [Function.comp, UInt8.toNat_ofNat']
 omega
theorem wraps_u64 (j : Nat) (hj : j ≤ 64) (n : Int) (h₀ : 0 ≤ n) (h₁ : n < 2 ^ j) : IntKind.u64.wrap n = n := by
 apply IntWalk.u64_in
 have : (2:Int) ^ j ≤ 2 ^ 64 := by exact_mod_cast Nat.pow_le_pow_right (by decide) hj
 omega
/-- the bytes of a wide number, the highest first -/
def wideL : Nat → Nat → List Int
 | 0, _ => []
 | w + 1, n => wideL w (n / 256) ++ [((n % 256 : Nat) : Int)]
theorem wideL_len : ∀ w n, (wideL w n).length = w := by
 intro w
 induction w with
 | zero => intro n; rfl
 | succ w ih => intro n; simp [wideL, ih]
theorem wideL_cons : ∀ w n, wideL (w + 1) n = ((n / 256 ^ w % 256 : Nat) : Int) :: wideL w n := by
 intro w
 induction w with
 | zero => intro n; simp [wideL]
 | succ w ih =>
  intro n
  rw [wideL, ih (n / 256), wideL, Nat.div_div_eq_div_mul, Nat.pow_succ', List.cons_append]
theorem set_mid (m : Nat) (v : Int) (l : List Int) : (List.replicate (m + 1) (0 : Int) ++ l).set m v = List.replicate m 0 ++ v :: l := by
 rw [List.replicate_succ']
 have h : (List.replicate m (0:Int)).length = m := List.length_replicate
 rw [List.append_assoc, List.set_append_right _ _ (by omega), h, Nat.sub_self]
 rfl
theorem pow256 (i : Nat) : 256 ^ i = 2 ^ (8 * i) := by rw [show (256:Nat) = 2 ^ 8 from rfl, ← Nat.pow_mul]
theorem oct_wide_l0 (n : Nat) (hn : n < 2 ^ 64) (w : Nat) (hw : w ≤ 8) : ∀ d i : Nat, d + i = w → ∀ k, d < k →
  octet_Wide.l0 k n w (List.replicate (w - i) 0 ++ wideL i n) w i = some (strOfNums (wideL w n), 0) := by
 intro d
 induction d with
 | zero =>
  intro i hi k hk
  obtain ⟨k, rfl⟩ : ∃ m, k = m + 1 := ⟨k - 1, by omega⟩
  simp only [octet_Wide.l0]
  obtain rfl : i = w := by omega
  rw [if_neg (by omega)]; simp
 | succ d ih =>
  intro i hi k hk
  obtain ⟨k, rfl⟩ : ∃ m, k = m + 1 := ⟨k - 1, by omega⟩
  simp only [octet_Wide.l0]
  have e1 : wrap64 (8 * (i : Int)) = 8 * i := IntWalk.wrap64_in _ (by omega)
  have e2 : wrap64 ((w : Int) - 1) = w - 1 := IntWalk.wrap64_in _ (by omega)
  have e3 : wrap64 ((w : Int) - 1 - i) = ((w - 1 - i : Nat) : Int) := by rw [IntWalk.wrap64_in _ (by omega)]; omega
  have e4 : wrap64 ((i : Int) + 1) = ((i + 1 : Nat) : Int) := by rw [IntWalk.wrap64_in _ (by omega)]; omega
  rw [e1, e2, e3, e4, if_pos (by omega), if_pos (by omega), if_pos (by omega), if_pos (by simp [wideL_len]; omega)]
  have e5 : shr .u64 (n : Int) (8 * (i : Int)) % 256 = ((n / 256 ^ i % 256 : Nat) : Int) := by
   unfold shr
   rw [show min (8 * (i : Int)).toNat IntKind.u64.bits = 8 * i from by simp [IntKind.bits]; omega, pow256]
   simp
  rw [e5, Int.toNat_natCast, show w - i = (w - 1 - i) + 1 from by omega, set_mid, ← wideL_cons, show w - 1 - i = w - (i + 1) from by omega]
  exact ih (i + 1) (by omega) k (by omega)
def wideS (n w : Nat) : ByteArray := strOfNums (wideL w n)
theorem wideS_size (n w : Nat) : (wideS n w).size = w := by unfold wideS; rw [strOfNums_size, wideL_len]
/-- a number in so many bytes, or that it can't be -/
def wide (n : Nat) (w : Int) : ByteArray × Int := if w < 1 ∨ 8 < w ∨ n / 256 ^ w.toNat ≠ 0 then (⟨#[]⟩, 1) else (wideS n w.toNat, 0)
theorem oct_wide (n : Nat) (hn : n < 2 ^ 64) (w : Int) (k : Nat) (hk : 11 ≤ k) : octet_Wide.f k n w = some (wide n w) := by
 obtain ⟨k, rfl⟩ : ∃ m, k = m + 1 := ⟨k - 1, by omega⟩
 unfold octet_Wide.f wide
 by_cases h1 : w < 1
 ·rw [if_pos h1, if_pos (.inl h1)]; simp [octet_Wide.j0]
 ·rw [if_neg h1]
  by_cases h2 : 8 < w
  ·rw [if_pos h2, if_pos (.inr (.inl h2))]; simp [octet_Wide.j0]
  ·rw [if_neg h2]
   obtain ⟨w, rfl⟩ := Int.eq_ofNat_of_zero_le (show 0 ≤ w by omega)
   have fin : ∀ b : Bool, (b = true ↔ n / 256 ^ w ≠ 0) → octet_Wide.j0 (k + 1) n w b = some (if (w : Int) < 1 ∨ 8 < (w : Int) ∨ n / 256 ^ (w : Int).toNat ≠ 0 then (⟨#[]⟩, 1) else (wideS n (w : Int).toNat, 0)) := by
    intro b hb
    simp only [octet_Wide.j0]
    rw [Int.toNat_natCast]
    by_cases h3 : n / 256 ^ w = 0
    ·have hb' : ¬ b = true := fun e => hb.1 e h3
     rw [if_neg hb', if_pos (Int.natCast_nonneg _), if_pos (by omega), if_neg (fun h => h.elim h1 fun h => h.elim h2 fun h => h h3)]
     have := oct_wide_l0 n hn w (by omega) w 0 (by omega) k (by omega)
     simpa [wideL, wideS] using this
    ·rw [if_pos (hb.2 h3), if_pos (.inr (.inr h3))]
   by_cases h3 : (w : Int) < 8
   ·rw [if_pos h3]
    have e1 : wrap64 (8 * (w : Int)) = 8 * w := IntWalk.wrap64_in _ (by omega)
    rw [e1, if_pos (by omega)]
    apply fin
    unfold shr
    rw [show min (8 * (w : Int)).toNat IntKind.u64.bits = 8 * w from by simp [IntKind.bits]; omega, pow256]
    rw [bne_iff_ne]
    have : ((n : Int) / 2 ^ (8 * w)) = ((n / 2 ^ (8 * w) : Nat) : Int) := by simp
    rw [this]; omega
   ·rw [if_neg h3]
    apply fin
    obtain rfl : w = 8 := by omega
    have : n / 256 ^ 8 = 0 := Nat.div_eq_of_lt (by omega)
    simp [this]
/-- a wide number that stands in bytes -/
def rwide (s : ByteArray) (p : Nat) : Nat → Nat
 | 0 => 0
 | i + 1 => rwide s p i * 256 + (bt s ((p + i : Nat) : Int)).toNat
theorem rwide_lt (s : ByteArray) (p : Nat) : ∀ i, rwide s p i < 256 ^ i := by
 intro i
 induction i with
 | zero => simp [rwide]
 | succ i ih =>
  have := bt_range s ((p + i : Nat) : Int)
  simp only [rwide]
  rw [Nat.pow_succ]; omega
theorem oct_rwide_l0 (s : ByteArray) (hs : s.size ≤ 1152921504606846976) (p w : Nat) (hw : w ≤ 8) (hp : p + w ≤ s.size) : ∀ d i : Nat, d + i = w → ∀ k, d < k →
  octet_ReadWide.l0 k s p w (rwide s p i : Nat) w i = some (((rwide s p w : Nat) : Int), ((p + w : Nat) : Int), 0) := by
 intro d
 induction d with
 | zero =>
  intro i hi k hk
  obtain ⟨k, rfl⟩ : ∃ m, k = m + 1 := ⟨k - 1, by omega⟩
  simp only [octet_ReadWide.l0]
  obtain rfl : i = w := by omega
  rw [if_neg (by omega), IntWalk.wrap64_in _ (by omega)]; simp
 | succ d ih =>
  intro i hi k hk
  obtain ⟨k, rfl⟩ : ∃ m, k = m + 1 := ⟨k - 1, by omega⟩
  simp only [octet_ReadWide.l0]
  have e1 : wrap64 ((p : Int) + i) = ((p + i : Nat) : Int) := by rw [IntWalk.wrap64_in _ (by omega)]; omega
  have e4 : wrap64 ((i : Int) + 1) = ((i + 1 : Nat) : Int) := by rw [IntWalk.wrap64_in _ (by omega)]; omega
  rw [e1, e4, if_pos (by omega), if_pos (by omega), if_pos (by omega)]
  have hb := bt_range s ((p + i : Nat) : Int)
  have hr := rwide_lt s p i
  have h7 : 256 ^ i ≤ 256 ^ 7 := Nat.pow_le_pow_right (by decide) (by omega)
  have e5 : Go.bits .or .u64 (IntKind.u64.wrap (((rwide s p i : Nat) : Int) * 256)) (IntKind.u64.wrap (bt s ((p + i : Nat) : Int))) = ((rwide s p (i + 1) : Nat) : Int) := by
   rw [IntWalk.u64_in _ (by omega), IntWalk.u64_in _ (by omega)]
   rw [bits_join .u64 64 (by decide) (wraps_u64 64 (by decide)) 8 _ _ (by omega) (by omega) (by omega) (by omega) (by omega) (by omega)]
   simp only [rwide]; omega
  rw [e5]
  exact ih (i + 1) (by omega) k (by omega)
def readWide (s : ByteArray) (a w : Int) : Int × Int × Int :=
 if w < 1 ∨ 8 < w ∨ a < 0 ∨ (s.size : Int) < a then (0, 0, 1) else if (s.size : Int) - a < w then (0, 0, 5) else (((rwide s a.toNat w.toNat : Nat) : Int), a + w, 0)
theorem oct_rwide (s : ByteArray) (hs : s.size ≤ 1152921504606846976) (a w : Int) (k : Nat) (hk : 11 ≤ k) : octet_ReadWide.f k s a w = some (readWide s a w) := by
 obtain ⟨k, rfl⟩ : ∃ m, k = m + 1 := ⟨k - 1, by omega⟩
 unfold octet_ReadWide.f readWide
 by_cases h1 : w < 1
 ·rw [if_pos h1, if_pos (.inl h1)]; simp [octet_ReadWide.j0]
 by_cases h2 : 8 < w
 ·rw [if_neg h1, if_pos h2, if_pos (.inr (.inl h2))]; simp [octet_ReadWide.j0]
 by_cases h3 : a < 0
 ·rw [if_neg h1, if_neg h2, if_pos h3, if_pos (.inr (.inr (.inl h3)))]; simp [octet_ReadWide.j0]
 by_cases h4 : (s.size : Int) < a
 ·rw [if_neg h1, if_neg h2, if_neg h3, if_pos (.inr (.inr (.inr h4)))]; simp [octet_ReadWide.j0, h4]
 rw [if_neg h1, if_neg h2, if_neg h3, if_neg (by omega)]
 simp only [octet_ReadWide.j0]
 rw [if_neg (by simp; omega), IntWalk.wrap64_in ((s.size : Int) - a) (by omega)]
 by_cases h5 : (s.size : Int) - a < w
 ·rw [if_pos h5, if_pos h5]
 ·rw [if_neg h5, if_neg h5]
  obtain ⟨w, rfl⟩ := Int.eq_ofNat_of_zero_le (show 0 ≤ w by omega)
  obtain ⟨p, rfl⟩ := Int.eq_ofNat_of_zero_le (show 0 ≤ a by omega)
  have := oct_rwide_l0 s hs p w (by omega) (by omega) w 0 (by omega) k (by omega)
  simpa [rwide] using this
/-- one bit of a sum -/
def st1 (x : Nat) : Nat := (x / 2) ^^^ (if x % 2 = 1 then 3988292384 else 0)
def stN : Nat → Nat → Nat
 | 0, x => x
 | n + 1, x => stN n (st1 x)
/-- bytes taken into a sum -/
def crc (x : Nat) (l : List Nat) : Nat := l.foldl (fun x b => stN 8 (x ^^^ b)) x
theorem crc_app (x : Nat) (a b : List Nat) : crc x (a ++ b) = crc (crc x a) b := by simp [crc]
theorem st1_lt {x : Nat} (h : x < 2 ^ 32) : st1 x < 2 ^ 32 := by
 unfold st1
 exact Nat.xor_lt_two_pow (by omega) (by split <;> decide)
theorem stN_lt : ∀ (n : Nat) {x : Nat}, x < 2 ^ 32 → stN n x < 2 ^ 32 := by
 intro n
 induction n with
 | zero => intro x h; exact h
 | succ n ih => intro x h; exact ih (st1_lt h)
theorem crc_lt : ∀ (l : List Nat), (∀ b ∈ l, b < 256) → ∀ {x : Nat}, x < 2 ^ 32 → crc x l < 2 ^ 32 := by
 intro l
 induction l with
 | nil => intro _ x h; exact h
 | cons b l ih =>
  intro hl x h
  have hb : b < 256 := hl b (by simp)
  exact ih (fun c hc => hl c (by simp [hc])) (stN_lt 8 (Nat.xor_lt_two_pow h (by omega)))
theorem wraps_u32f (n : Int) (h₀ : 0 ≤ n) (h₁ : n < 2 ^ 32) : IntKind.u32.wrap n = n := by rw [IntKind.wrap_u32]; omega
theorem bits_xor_nat (k : IntKind) (j : Nat) (hj : j ≤ k.bits) (hk : ∀ n : Int, 0 ≤ n → n < 2 ^ j → k.wrap n = n) (a b : Nat) (ha : a < 2 ^ j) (hb : b < 2 ^ j) :
  Go.bits .xor k a b = ((a ^^^ b : Nat) : Int) := by
 have hp : 2 ^ j ≤ 2 ^ k.bits := Nat.pow_le_pow_right (by decide) hj
 have ha' : a % 2 ^ k.bits = a := Nat.mod_eq_of_lt (Nat.lt_of_lt_of_le ha hp)
 have hb' : b % 2 ^ k.bits = b := Nat.mod_eq_of_lt (Nat.lt_of_lt_of_le hb hp)
 simp only [bits, BitVec.ofInt_natCast, BitVec.toNat_xor, BitVec.toNat_ofNat, ha', hb']
 exact hk _ (Int.natCast_nonneg _) (by exact_mod_cast Nat.xor_lt_two_pow ha hb)
theorem xor_u32f (a b : Nat) (ha : a < 2 ^ 32) (hb : b < 2 ^ 32) : Go.bits .xor .u32 a b = ((a ^^^ b : Nat) : Int) :=
 bits_xor_nat .u32 32 (by decide) wraps_u32f a b ha hb
theorem not_u32f (a : Nat) (ha : a < 2 ^ 32) : Go.bits .xor .u32 4294967295 a = ((4294967295 - a : Nat) : Int) := by
 have h := xor_u32f 4294967295 a (by decide) ha
 have e : (4294967295 : Nat) ^^^ a = 4294967295 - a := by
  have hv : a = (BitVec.ofNat 32 a).toNat := by simp; omega
  have h3 : (~~~ (BitVec.ofNat 32 a)).toNat = 4294967295 - a := by rw [BitVec.toNat_not, ← hv]
  have h4 : (BitVec.allOnes 32 ^^^ BitVec.ofNat 32 a).toNat = 4294967295 ^^^ a := by rw [BitVec.toNat_xor, ← hv]; rfl
  rw [← h4, ← h3, BitVec.allOnes_xor]
 rw [← e]; exact h
theorem oct_step (x : Nat) (hx : x < 2 ^ 32) : Go.bits .xor .u32 ((x : Int) / 2) (Go.bits .and .u32 3988292384 ((-(Go.bits .and .u32 x 1)) % 4294967296)) = ((st1 x : Nat) : Int) := by
 have h1 : Go.bits .and .u32 (x : Int) 1 = ((x % 2 : Nat) : Int) := by
  have := bits_mask .u32 32 (by decide) (fun n h0 h1 => wraps_u32f n h0 h1) 1 (by decide) (x : Int) (by omega) (by omega)
  rw [show ((2 : Int) ^ 1 - 1) = 1 from rfl] at this
  rw [this]; omega
 rw [h1]
 have h2 : Go.bits .and .u32 3988292384 ((-((x % 2 : Nat) : Int)) % 4294967296) = (((if x % 2 = 1 then 3988292384 else 0 : Nat) : Nat) : Int) := by
  by_cases h : x % 2 = 1
  ·rw [if_pos h, h]; decide +kernel
  ·rw [if_neg h, show x % 2 = 0 by omega]; decide +kernel
 rw [h2, show (x : Int) / 2 = ((x / 2 : Nat) : Int) by omega, xor_u32f _ _ (by omega) (by split <;> decide)]
 rfl
theorem byte_in (x : Nat) (hx : x < 2 ^ 32) (s : ByteArray) (i : Int) : Go.bits .xor .u32 x ((bt s i) % 4294967296) = ((x ^^^ (bt s i).toNat : Nat) : Int) := by
 have hb := bt_range s i
 rw [show (bt s i) % 4294967296 = (((bt s i).toNat : Nat) : Int) by omega, xor_u32f _ _ hx (by omega)]
theorem oct_l1 (s : ByteArray) (n i : Int) : ∀ d : Nat, d ≤ 8 → ∀ (x k : Nat), x < 2 ^ 32 → d < k → frame_more.l1 k x s n i ((8 - d : Nat) : Int) = frame_more.l0 (k - d - 1) (stN d x : Nat) s n (wrap64 (i + 1)) := by
 intro d
 induction d with
 | zero =>
  intro _ x k _ hk
  obtain ⟨k, rfl⟩ : ∃ m, k = m + 1 := ⟨k - 1, by omega⟩
  simp only [frame_more.l1]
  rw [if_neg (by omega)]; rfl
 | succ d ih =>
  intro hd x k hx hk
  obtain ⟨k, rfl⟩ : ∃ m, k = m + 1 := ⟨k - 1, by omega⟩
  simp only [frame_more.l1]
  rw [if_pos (by omega), oct_step x hx, show wrap64 (((8 - (d + 1) : Nat) : Int) + 1) = ((8 - d : Nat) : Int) by rw [IntWalk.wrap64_in _ (by omega)]; omega]
  rw [ih (by omega) _ k (st1_lt hx) (by omega)]
  rw [show k + 1 - (d + 1) - 1 = k - d - 1 by omega]
  rfl
theorem oct_more_l0 (s : ByteArray) (hs : s.size ≤ 1152921504606846976) : ∀ d i : Nat, d + i = s.size → ∀ (x k : Nat), x < 2 ^ 32 → 10 * d < k → frame_more.l0 k x s s.size i = some ((crc x ((nb s).drop i) : Nat) : Int) := by
 intro d
 induction d with
 | zero =>
  intro i hi x k hx hk
  obtain ⟨k, rfl⟩ : ∃ m, k = m + 1 := ⟨k - 1, by omega⟩
  simp only [frame_more.l0]
  rw [if_neg (by omega), List.drop_eq_nil_of_le (by rw [nb_len]; omega)]; rfl
 | succ d ih =>
  intro i hi x k hx hk
  obtain ⟨k, rfl⟩ : ∃ m, k = m + 1 := ⟨k - 1, by omega⟩
  have hb := bt_range s i
  simp only [frame_more.l0]
  rw [if_pos (by omega), if_pos (by omega), if_pos (by omega), byte_in x hx]
  rw [show (0 : Int) = ((8 - 8 : Nat) : Int) from rfl, oct_l1 s _ _ 8 (by omega) _ k (Nat.xor_lt_two_pow hx (by omega)) (by omega)]
  rw [show wrap64 ((i : Int) + 1) = ((i + 1 : Nat) : Int) by rw [IntWalk.wrap64_in _ (by omega)]; omega]
  rw [ih (i + 1) (by omega) _ _ (stN_lt 8 (Nat.xor_lt_two_pow hx (by omega))) (by omega)]
  rw [nb_bt s i (by omega)]
  rfl
theorem oct_more (s : ByteArray) (hs : s.size ≤ 1152921504606846976) (x k : Nat) (hx : x < 2 ^ 32) (hk : 10 * s.size < k) : frame_more.f k x s = some ((crc x (nb s) : Nat) : Int) := by
 have := oct_more_l0 s hs s.size 0 (by omega) x k hx hk
 simpa [frame_more.f] using this
/-- bytes' sum -/
def sumOf (l : List Nat) : Nat := 4294967295 - crc 4294967295 l
theorem sumOf_lt (l : List Nat) : sumOf l < 2 ^ 32 := by unfold sumOf; omega
/-- a body's frame -/
def frameS (s : ByteArray) : ByteArray := (wideS s.size 4 ++ wideS (sumOf (nb (wideS s.size 4 ++ s))) 4) ++ s
theorem frameS_size (s : ByteArray) : (frameS s).size = 8 + s.size := by simp [frameS, ByteArray.size_append, wideS_size]
theorem wide4 (n : Nat) (h : n < 2 ^ 32) : wide n 4 = (wideS n 4, 0) := by
 unfold wide
 rw [if_neg (fun hh => by rcases hh with hh | hh | hh <;> simp at hh; omega)]
 rfl
theorem oct_frame (s : ByteArray) (k : Nat) (hk : 2621540 < k) : frame_Frame.f k s = some (if 262144 < s.size then (⟨#[]⟩, 2) else (frameS s, 0)) := by
 unfold frame_Frame.f
 by_cases h : 262144 < s.size
 ·rw [if_pos (by omega), if_pos h]
 ·rw [if_neg (by omega), if_neg h]
  rw [IntWalk.u64_in _ (by omega), oct_wide s.size (by omega) 4 k (by omega), wide4 _ (by omega)]
  simp only [Option.bind_some]
  have hw := wideS_size s.size 4
  rw [show (4294967295 : Int) = ((4294967295 : Nat) : Int) from rfl, oct_more _ (by omega) _ k (by decide) (by omega)]
  simp only [Option.bind_some]
  have hl1 := crc_lt _ (nb_lt (wideS s.size 4)) (x := 4294967295) (by decide)
  rw [oct_more s (by omega) _ k hl1 (by omega)]
  simp only [Option.bind_some]
  rw [← crc_app, ← nb_app]
  have hl2 := crc_lt _ (nb_lt (wideS s.size 4 ++ s)) (x := 4294967295) (by decide)
  rw [show ((4294967295 : Nat) : Int) = (4294967295 : Int) from rfl, not_u32f _ hl2, IntWalk.u64_in _ (by omega), oct_wide _ (by omega) 4 k (by omega), wide4 _ (by omega)]
  simp only [Option.bind_some]
  rw [if_pos (by rw [wideS_size, wideS_size]; omega), if_pos (by rw [ByteArray.size_append, wideS_size, wideS_size]; omega)]
  rfl
/-- the frame that stands at a place, or what is wrong there -/
def unframeN (s : ByteArray) (p : Nat) : ByteArray × Int × Int :=
 if s.size - p < 4 then (⟨#[]⟩, 0, 5)
 else if 262144 < rwide s p 4 then (⟨#[]⟩, 0, 2)
 else if s.size - (p + 4) < 4 + rwide s p 4 then (⟨#[]⟩, 0, 5)
 else if rwide s (p + 4) 4 = sumOf (nb (s.extract p (p + 4) ++ s.extract (p + 8) (p + 8 + rwide s p 4))) then
  (s.extract (p + 8) (p + 8 + rwide s p 4), ((p + 8 + rwide s p 4 : Nat) : Int), 0)
 else (⟨#[]⟩, 0, 10)
def unframe (s : ByteArray) (a : Int) : ByteArray × Int × Int := if a < 0 ∨ (s.size : Int) < a then (⟨#[]⟩, 0, 1) else unframeN s a.toNat
theorem readWide4 (s : ByteArray) (p : Nat) (hp : p ≤ s.size) : readWide s p 4 = if s.size - p < 4 then (0, 0, 5) else (((rwide s p 4 : Nat) : Int), ((p + 4 : Nat) : Int), 0) := by
 unfold readWide
 rw [if_neg (by omega)]
 by_cases h : s.size - p < 4
 ·rw [if_pos (by omega), if_pos h]
 ·rw [if_neg (by omega), if_neg h]; rfl
theorem cmp_sum (r c : Nat) (hr : r < 256 ^ 4) : ((r : Int) % 4294967296 = (c : Int)) ↔ r = c := by omega
theorem oct_unframe (s : ByteArray) (hs : s.size ≤ 1152921504606846976) (a : Int) (k : Nat) (hk : 10 * s.size + 100 < k) : frame_Unframe.f k s a = some (unframe s a) := by
 unfold frame_Unframe.f unframe
 rw [oct_rwide s hs a 4 k (by omega)]
 simp only [Option.bind_some]
 by_cases ha : a < 0 ∨ (s.size : Int) < a
 ·have : readWide s a 4 = (0, 0, 1) := by unfold readWide; rw [if_pos (by omega)]
  rw [this, if_pos ha]; simp
 ·rw [if_neg ha]
  obtain ⟨p, rfl⟩ := Int.eq_ofNat_of_zero_le (show 0 ≤ a by omega)
  rw [readWide4 s p (by omega), Int.toNat_natCast]
  unfold unframeN
  by_cases h1 : s.size - p < 4
  ·rw [if_pos h1, if_pos h1]; simp
  ·rw [if_neg h1, if_neg h1]
   simp only [if_true]
   have hr := rwide_lt s p 4
   by_cases h2 : 262144 < rwide s p 4
   ·rw [if_pos (by omega), if_pos h2]
   ·rw [if_neg (by omega), if_neg h2]
    have w1 : wrap64 ((s.size : Int) - ((p + 4 : Nat) : Int)) = (s.size : Int) - ((p + 4 : Nat) : Int) := IntWalk.wrap64_in _ (by omega)
    have w2 : wrap64 ((rwide s p 4 : Nat) : Int) = ((rwide s p 4 : Nat) : Int) := IntWalk.wrap64_in _ (by omega)
    rw [w1, w2, IntWalk.wrap64_in (4 + _) (by omega)]
    by_cases h3 : s.size - (p + 4) < 4 + rwide s p 4
    ·rw [if_pos (by omega), if_pos h3]
    ·rw [if_neg (by omega), if_neg h3]
     have hh : octet_ReadWide.f k s ((p + 4 : Nat) : Int) 4 = some (((rwide s (p + 4) 4 : Nat) : Int), ((p + 4 + 4 : Nat) : Int), 0) := by
      rw [oct_rwide s hs _ 4 k (by omega), readWide4 s (p + 4) (by omega), if_neg (by omega)]
     rw [hh, Option.bind_some]
     have hr2 := rwide_lt s (p + 4) 4
     generalize rwide s (p + 4) 4 = sm at hr2 ⊢
     dsimp only
     have w3 : wrap64 (((p + 4 + 4 : Nat) : Int) + ((rwide s p 4 : Nat) : Int)) = ((p + 8 + rwide s p 4 : Nat) : Int) := by rw [IntWalk.wrap64_in _ (by omega)]; omega
     rw [w3, if_pos (by omega), if_pos (by omega), if_pos (by omega), if_pos (by omega), if_pos (by omega), if_pos (by omega)]
     simp only [Int.toNat_natCast]
     have hz1 : (s.extract p (p + 4)).size = 4 := by rw [ByteArray.size_extract]; omega
     have hz2 : (s.extract (p + 4 + 4) (p + 8 + rwide s p 4)).size = rwide s p 4 := by rw [ByteArray.size_extract]; omega
     rw [show (4294967295 : Int) = ((4294967295 : Nat) : Int) from rfl, oct_more _ (by omega) _ k (by decide) (by omega)]
     simp only [Option.bind_some]
     have hl1 := crc_lt _ (nb_lt (s.extract p (p + 4))) (x := 4294967295) (by decide)
     rw [oct_more _ (by omega) _ k hl1 (by omega)]
     simp only [Option.bind_some]
     rw [← crc_app, ← nb_app]
     have hl2 := crc_lt _ (nb_lt (s.extract p (p + 4) ++ s.extract (p + 4 + 4) (p + 8 + rwide s p 4))) (x := 4294967295) (by decide)
     rw [show ((4294967295 : Nat) : Int) = (4294967295 : Int) from rfl, not_u32f _ hl2]
     have e8 : p + 4 + 4 = p + 8 := by omega
     simp only [e8]
     have hc := cmp_sum sm (sumOf (nb (s.extract p (p + 4) ++ s.extract (p + 8) (p + 8 + rwide s p 4)))) hr2
     unfold sumOf at hc ⊢
     by_cases h4 : sm = 4294967295 - crc 4294967295 (nb (s.extract p (p + 4) ++ s.extract (p + 8) (p + 8 + rwide s p 4)))
     ·rw [if_pos (hc.2 h4), if_pos h4]
     ·rw [if_neg (fun h => h4 (hc.1 h)), if_neg h4]
theorem wideL_range : ∀ w n, ∀ x ∈ wideL w n, 0 ≤ x ∧ x < 256 := by
 intro w
 induction w with
 | zero => intro n x hx; cases hx
 | succ w ih =>
  intro n x hx
  rcases List.mem_append.1 hx with hx | hx
  ·exact ih _ x hx
  ·simp only [List.mem_singleton] at hx
   omega
def wideN (n w : Nat) : List Nat := (wideL w n).map Int.toNat
theorem nb_wideS (n w : Nat) : nb (wideS n w) = wideN n w := nb_strOf _ (wideL_range w n)
theorem wideN_len (n w : Nat) : (wideN n w).length = w := by simp [wideN, wideL_len]
/-- the number that bytes say -/
def rdw (l : List Nat) : Nat := l.foldl (fun x b => x * 256 + b) 0
theorem rdw_snoc (l : List Nat) (b : Nat) : rdw (l ++ [b]) = rdw l * 256 + b := by simp [rdw]
theorem rdw_wide : ∀ w n, n < 256 ^ w → rdw (wideN n w) = n := by
 intro w
 induction w with
 | zero => intro n h; simp [wideN, wideL, rdw]; omega
 | succ w ih =>
  intro n h
  have e : wideN n (w + 1) = wideN (n / 256) w ++ [n % 256] := by simp [wideN, wideL]; omega
  rw [e, rdw_snoc, ih _ (by rw [Nat.pow_succ] at h; exact Nat.div_lt_of_lt_mul (by omega))]
  omega
theorem rwide_rdw (s : ByteArray) (p : Nat) : ∀ w, p + w ≤ s.size → rwide s p w = rdw (((nb s).drop p).take w) := by
 intro w
 induction w with
 | zero => intro _; rfl
 | succ w ih =>
  intro h
  have h1 := nb_bt s (p + w) (by omega)
  have e : ((nb s).drop p).take (w + 1) = ((nb s).drop p).take w ++ [(bt s ((p + w : Nat) : Int)).toNat] := by
   rw [List.take_add_one, List.getElem?_drop]
   have : (nb s)[p + w]? = some (bt s ((p + w : Nat) : Int)).toNat := by
    have h2 := congrArg (fun l => l[0]?) h1
    simpa using h2
   rw [this]; rfl
  rw [rwide, ih (by omega), e, rdw_snoc]
def frameN (b : List Nat) : List Nat := wideN b.length 4 ++ wideN (sumOf (wideN b.length 4 ++ b)) 4 ++ b
theorem nb_frameS (s : ByteArray) : nb (frameS s) = frameN (nb s) := by
 simp only [frameS, frameN, nb_app, nb_wideS, nb_len]
theorem frameN_len (b : List Nat) : (frameN b).length = 8 + b.length := by simp [frameN, wideN_len]; omega
/-- what is framed is found -/
theorem unframe_frame (s b : ByteArray) (p : Nat) (post : List Nat) (hp : p ≤ s.size) (hb : b.size ≤ 262144) (h : (nb s).drop p = frameN (nb b) ++ post) : unframeN s p = (b, ((p + (8 + b.size) : Nat) : Int), 0) := by
 have hl := congrArg List.length h
 rw [List.length_drop, nb_len, List.length_append, frameN_len, nb_len] at hl
 have hw := wideN_len b.size 4
 have hw2 := wideN_len (sumOf (wideN b.size 4 ++ nb b)) 4
 have hfr : frameN (nb b) = wideN b.size 4 ++ (wideN (sumOf (wideN b.size 4 ++ nb b)) 4 ++ nb b) := by simp [frameN, nb_len]
 have r1 : rwide s p 4 = b.size := by
  rw [rwide_rdw s p 4 (by omega), h, hfr, List.append_assoc, List.take_append_of_le_length (by omega), List.take_of_length_le (by omega), rdw_wide 4 _ (by omega)]
 have r2 : rwide s (p + 4) 4 = sumOf (wideN b.size 4 ++ nb b) := by
  rw [rwide_rdw s (p + 4) 4 (by omega), ← List.drop_drop, h, hfr, List.append_assoc, List.drop_append_of_le_length (by omega), List.drop_of_length_le (by omega), List.nil_append, List.append_assoc,
   List.take_append_of_le_length (by omega), List.take_of_length_le (by omega), rdw_wide 4 _ (sumOf_lt _)]
 have eb : s.extract (p + 8) (p + 8 + b.size) = b := by
  apply nb_inj
  rw [nb_extract, show p + 8 + b.size - (p + 8) = b.size by omega, ← List.drop_drop, h, hfr, List.append_assoc]
  rw [show (8 : Nat) = 4 + 4 from rfl, ← List.drop_drop, List.drop_append_of_le_length (by omega), List.drop_of_length_le (l := wideN b.size 4) (by omega), List.nil_append, List.append_assoc, List.drop_append_of_le_length (by omega), List.drop_of_length_le (by omega), List.nil_append,
   List.take_append_of_le_length (by rw [nb_len]; exact Nat.le_refl _), List.take_of_length_le (by rw [nb_len]; exact Nat.le_refl _)]
 have eh : nb (s.extract p (p + 4)) = wideN b.size 4 := by
  rw [nb_extract, h, hfr, List.append_assoc, show p + 4 - p = 4 by omega, List.take_append_of_le_length (by omega), List.take_of_length_le (by omega)]
 unfold unframeN
 rw [r1, if_neg (by omega), if_neg (by omega), if_neg (by omega), r2, eb, nb_app, eh, if_pos rfl]
 rw [show p + 8 + b.size = p + (8 + b.size) by omega]
/-! bytes, cut -/
def pcs (w : Nat) : Nat → ByteArray → List ByteArray
 | 0, _ => []
 | d + 1, s => if s.size = 0 then [] else s.extract 0 (min w s.size) :: pcs w d (s.extract (min w s.size) s.size)
def piecesS (w : Nat) (s : ByteArray) : List ByteArray := pcs w s.size s
theorem pcs_nil (w : Nat) : ∀ (d : Nat) (s : ByteArray), s.size = 0 → pcs w d s = []
 | 0, _, _ => rfl
 | d + 1, s, h => by rw [pcs, if_pos h]
theorem mn_nat (a b : Nat) : mn (a : Int) (b : Int) = ((min a b : Nat) : Int) := by unfold mn; split <;> omega
theorem oct_pieces_l0 (w : Nat) (hw : 0 < w) : ∀ (d : Nat) (s : ByteArray) (done : List ByteArray) (k : Nat), s.size ≤ d → d < k → done.length + d ≤ 1000000000 → extent_pieces.l0 k s w done = some (done ++ pcs w d s)
 | 0, s, done, k, hs, hk, hl => by
  obtain ⟨k, rfl⟩ : ∃ m, k = m + 1 := ⟨k - 1, by omega⟩
  rw [extent_pieces.l0, if_neg (by omega), pcs, List.append_nil]
 | d + 1, s, done, k, hs, hk, hl => by
  obtain ⟨k, rfl⟩ : ∃ m, k = m + 1 := ⟨k - 1, by omega⟩
  by_cases h : s.size = 0
  ·rw [extent_pieces.l0, if_neg (by omega), pcs_nil w _ s h, List.append_nil]
  ·have h1 : (s.extract (min w s.size) s.size).size ≤ d := by rw [ByteArray.size_extract]; omega
   have ih := oct_pieces_l0 w hw d (s.extract (min w s.size) s.size) (done ++ [s.extract 0 (min w s.size)]) k h1 (by omega) (by rw [List.length_append]; simp only [List.length_cons, List.length_nil]; omega)
   rw [extent_pieces.l0, if_pos (by omega), mn_nat, if_pos (by omega), if_pos (by omega), if_pos (by omega), Int.toNat_natCast, ih, pcs, if_neg h]
   simp
theorem oct_pieces (w : Nat) (hw : 0 < w) (s : ByteArray) (hs : s.size ≤ 1000000000) (k : Nat) (hk : s.size < k) : extent_pieces.f k s w = some (piecesS w s) := oct_pieces_l0 w hw s.size s [] k (Nat.le_refl _) hk (by simpa using hs)
theorem pcs_join (w : Nat) (hw : 0 < w) : ∀ (d : Nat) (s : ByteArray), s.size ≤ d → (pcs w d s).flatMap (·.data.toList) = s.data.toList
 | 0, s, h => by
  have : s.data.toList = [] := List.length_eq_zero_iff.1 (by rw [tl_len]; omega)
  rw [this]; rfl
 | d + 1, s, h => by
  by_cases h0 : s.size = 0
  ·have : s.data.toList = [] := List.length_eq_zero_iff.1 (by rw [tl_len]; omega)
   rw [this, pcs, if_pos h0]; rfl
  ·have ih := pcs_join w hw d (s.extract (min w s.size) s.size) (by rw [ByteArray.size_extract]; omega)
   rw [pcs, if_neg h0, List.flatMap_cons, ih, tl_ext, tl_ext, List.drop_zero, Nat.sub_zero, List.take_of_length_le (l := s.data.toList.drop _) (by rw [List.length_drop, tl_len]; omega), List.take_append_drop]
theorem pcs_size (w : Nat) : ∀ (d : Nat) (s : ByteArray), ∀ b ∈ pcs w d s, b.size ≤ w
 | 0, _, b, h => by cases h
 | d + 1, s, b, h => by
  rw [pcs] at h
  split at h
  ·cases h
  ·rcases List.mem_cons.1 h with rfl | h
   ·rw [ByteArray.size_extract]; omega
   ·exact pcs_size w d _ b h
theorem pcs_len (w : Nat) : ∀ (d : Nat) (s : ByteArray), (pcs w d s).length ≤ d
 | 0, _ => Nat.le_refl _
 | d + 1, s => by
  rw [pcs]
  split
  ·simp
  ·have := pcs_len w d (s.extract (min w s.size) s.size)
   simp only [List.length_cons]; omega
theorem pcs_many (w : Nat) (hw : 0 < w) : ∀ (d : Nat) (s : ByteArray), s.size ≤ d → (pcs w d s).length * w < s.size + w
 | 0, s, h => by simp [pcs]; omega
 | d + 1, s, h => by
  rw [pcs]
  split
  ·simp; omega
  ·rename_i h0
   have := pcs_many w hw d (s.extract (min w s.size) s.size) (by rw [ByteArray.size_extract]; omega)
   rw [ByteArray.size_extract] at this
   simp only [List.length_cons, Nat.add_mul]
   by_cases hm : w ≤ s.size
   ·have : min w s.size = w := by omega
    omega
   ·have e : min w s.size = s.size := by omega
    rw [e] at this ⊢
    rw [pcs_nil w d _ (by rw [ByteArray.size_extract]; omega)]
    simp; omega
/-! put together -/
def joinS (l : List ByteArray) : ByteArray := ⟨(l.flatMap (·.data.toList)).toArray⟩
theorem joinS_list (l : List ByteArray) : (joinS l).data.toList = l.flatMap (·.data.toList) := rfl
theorem join_pieces (w : Nat) (hw : 0 < w) (s : ByteArray) : joinS (piecesS w s) = s := ba_inj (pcs_join w hw s.size s (Nat.le_refl _))
def sumS (l : List ByteArray) : Nat := (l.map (·.size)).sum
theorem joinS_size (l : List ByteArray) : (joinS l).size = sumS l := by
 rw [← tl_len, joinS_list, List.length_flatMap]
 unfold sumS
 congr 1
theorem joinS_snoc (l : List ByteArray) (s : ByteArray) : joinS (l ++ [s]) = joinS l ++ s := ba_inj (by rw [joinS_list, tl_app, joinS_list, List.flatMap_append]; simp)
/-! an extent's file -/
def frsS (t : ByteArray) : List ByteArray → ByteArray
 | [] => t
 | b :: l => frsS (t ++ frameS b) l
def laidS (s : ByteArray) : ByteArray := frsS ⟨#[]⟩ (piecesS 512 s)
theorem frsS_nb : ∀ (l : List ByteArray) (t : ByteArray), nb (frsS t l) = nb t ++ l.flatMap fun b => frameN (nb b)
 | [], t => by simp [frsS]
 | b :: l, t => by rw [frsS, frsS_nb l, nb_app, nb_frameS, List.flatMap_cons, List.append_assoc]
theorem laidS_nb (s : ByteArray) : nb (laidS s) = (piecesS 512 s).flatMap fun b => frameN (nb b) := by
 unfold laidS
 rw [frsS_nb]; rfl
theorem frsS_size : ∀ (l : List ByteArray) (t : ByteArray), (frsS t l).size = t.size + (8 * l.length + sumS l)
 | [], t => rfl
 | b :: l, t => by
  rw [frsS, frsS_size l, ByteArray.size_append, frameS_size]
  unfold sumS
  simp only [List.map_cons, List.sum_cons, List.length_cons]
  omega
theorem laidS_size (s : ByteArray) : (laidS s).size = 8 * (piecesS 512 s).length + s.size := by
 unfold laidS
 have h := congrArg ByteArray.size (join_pieces 512 (by decide) s)
 rw [joinS_size] at h
 rw [frsS_size, h]
 exact Nat.zero_add _
theorem laidS_le (s : ByteArray) : (laidS s).size ≤ 9 * s.size := by
 have := pcs_len 512 s.size s
 rw [laidS_size]
 unfold piecesS
 omega
theorem oct_laid_l0 (l : List ByteArray) (hl : l.length ≤ 1000000000) (hb : ∀ b ∈ l, b.size ≤ 512) : ∀ (d j : Nat) (t : ByteArray) (k : Nat), j + d = l.length → t.size + d * 600 ≤ 1000000000000 → 2621540 + d < k → extent_laid.l0 k t l (l.length : Int) (j : Int) = some (frsS t (l.drop j))
 | 0, j, t, k, hj, ht, hk => by
  obtain ⟨k, rfl⟩ : ∃ m, k = m + 1 := ⟨k - 1, by omega⟩
  rw [extent_laid.l0, if_neg (by omega), List.drop_of_length_le (by omega)]
  rfl
 | d + 1, j, t, k, hj, ht, hk => by
  obtain ⟨k, rfl⟩ : ∃ m, k = m + 1 := ⟨k - 1, by omega⟩
  have hlt : j < l.length := by omega
  have hx : rdOf ByteArray.empty l (j : Int) = l[j] := by
   unfold rdOf
   rw [Int.toNat_natCast, List.getD_eq_getElem?_getD, List.getElem?_eq_getElem hlt]; rfl
  have hz := hb l[j] (List.getElem_mem hlt)
  have hf := frameS_size l[j]
  have ih := oct_laid_l0 l hl hb d (j + 1) (t ++ frameS l[j]) k (by omega) (by rw [ByteArray.size_append]; omega) (by omega)
  rw [extent_laid.l0, if_pos (by omega), if_pos (by omega), if_pos (by omega), hx, oct_frame _ k (by omega), if_neg (by omega), Option.bind_some]
  simp only
  rw [if_pos (by omega), IntWalk.wrap64_in _ (by omega), show (j : Int) + 1 = ((j + 1 : Nat) : Int) by omega, ih, List.drop_eq_getElem_cons hlt]
  rfl
theorem oct_laid (s : ByteArray) (hs : s.size ≤ 1000000) (k : Nat) (hk : 4000000 < k) : extent_laid.f k s = some (laidS s) := by
 unfold extent_laid.f
 have h1 := pcs_len 512 s.size s
 rw [show (512 : Int) = ((512 : Nat) : Int) from rfl, oct_pieces 512 (by decide) s (by omega) k (by omega), Option.bind_some]
 have := oct_laid_l0 (piecesS 512 s) (by unfold piecesS; omega) (pcs_size 512 _ s) (piecesS 512 s).length 0 ⟨#[]⟩ k (by omega) (by unfold piecesS; have e : (⟨#[]⟩ : ByteArray).size = 0 := rfl; omega) (by unfold piecesS; omega)
 rw [List.drop_zero] at this
 exact this
/-! frames, from the front on -/
theorem unframe_ok (s : ByteArray) (p : Nat) (h : (unframeN s p).2.2 = 0) : ∃ q : Nat, (unframeN s p).2.1 = q ∧ p + 8 ≤ q ∧ q ≤ s.size := by
 unfold unframeN at h ⊢
 split at h
 ·exact absurd h (by decide)
 ·split at h
  ·exact absurd h (by decide)
  ·split at h
   ·exact absurd h (by decide)
   ·split at h
    ·rename_i h1 h2 h3 h4
     refine ⟨p + 8 + rwide s p 4, ?_, by omega, by omega⟩
     rw [if_neg h1, if_neg h2, if_neg h3, if_pos h4]
    ·exact absurd h (by decide)
def framesN (s : ByteArray) : Nat → Nat → List ByteArray × Nat
 | 0, p => ([], p)
 | d + 1, p => if p < s.size ∧ (unframeN s p).2.2 = 0 then ((unframeN s p).1 :: (framesN s d (unframeN s p).2.1.toNat).1, (framesN s d (unframeN s p).2.1.toNat).2) else ([], p)
def framesS (s : ByteArray) : List ByteArray × Nat := framesN s (s.size + 1) 0
theorem unframe_nat (s : ByteArray) (p : Nat) (hp : p ≤ s.size) : unframe s (p : Int) = unframeN s p := by
 unfold unframe
 rw [if_neg (by omega), Int.toNat_natCast]
theorem oct_frames_go (s : ByteArray) (hs : s.size ≤ 1000000000000) : ∀ (d p : Nat) (done : List ByteArray) (k : Nat), s.size - p < d → p ≤ s.size → done.length ≤ p → 10 * s.size + 100 + d < k →
  frame_Frames.l0 k s done (p : Int) = some (done ++ (framesN s d p).1, ((framesN s d p).2 : Int))
 | 0, p, done, k, hd, hp, hl, hk => by omega
 | d + 1, p, done, k, hd, hp, hl, hk => by
  obtain ⟨k, rfl⟩ : ∃ m, k = m + 1 := ⟨k - 1, by omega⟩
  rw [frame_Frames.l0, framesN]
  by_cases h : p < s.size
  ·rw [if_pos (by omega), oct_unframe s (by omega) _ k (by omega), Option.bind_some, unframe_nat s p hp]
   by_cases h0 : (unframeN s p).2.2 = 0
   ·obtain ⟨q, hq, h1, h2⟩ := unframe_ok s p h0
    have ih := oct_frames_go s hs d q (done ++ [(unframeN s p).1]) k (by omega) h2 (by rw [List.length_append]; simp only [List.length_cons, List.length_nil]; omega) (by omega)
    rw [if_pos h0, if_pos (by omega), if_pos ⟨h, h0⟩, hq, ih, Int.toNat_natCast]
    simp
   ·rw [if_neg h0, if_neg (fun hh => h0 hh.2)]; simp
  ·rw [if_neg (by omega), if_neg (fun hh => h hh.1)]; simp
theorem oct_frames (s : ByteArray) (hs : s.size ≤ 1000000000000) (k : Nat) (hk : 11 * s.size + 200 < k) : frame_Frames.f k s = some ((framesS s).1, ((framesS s).2 : Int)) := by
 have := oct_frames_go s (by omega) (s.size + 1) 0 [] k (by omega) (by omega) (by simp) (by omega)
 exact this
theorem framesN_of (t : ByteArray) : ∀ (rest : List ByteArray) (d p : Nat), (∀ b ∈ rest, b.size ≤ 262144) → (nb t).drop p = (rest.flatMap fun b => frameN (nb b)) → p ≤ t.size → t.size - p < d → framesN t d p = (rest, t.size)
 | [], d, p, hb, h, hp, hd => by
  have hl := congrArg List.length h
  simp only [List.flatMap_nil, List.length_drop, nb_len, List.length_nil] at hl
  obtain ⟨d, rfl⟩ : ∃ m, d = m + 1 := ⟨d - 1, by omega⟩
  rw [framesN, if_neg (fun hh => by omega), show p = t.size by omega]
 | b :: rest, d, p, hb, h, hp, hd => by
  obtain ⟨d, rfl⟩ : ∃ m, d = m + 1 := ⟨d - 1, by omega⟩
  have hl := congrArg List.length h
  simp only [List.flatMap_cons, List.length_drop, nb_len, List.length_append, frameN_len] at hl
  have hu := unframe_frame t b p (rest.flatMap fun b => frameN (nb b)) hp (hb b (List.mem_cons_self ..)) (by rw [h, List.flatMap_cons])
  have ih := framesN_of t rest d (p + (8 + b.size)) (fun c hc => hb c (List.mem_cons_of_mem _ hc)) (by
   rw [← List.drop_drop, h, List.flatMap_cons, List.drop_append_of_le_length (by rw [frameN_len, nb_len]; exact Nat.le_refl _), List.drop_of_length_le (by rw [frameN_len, nb_len]; exact Nat.le_refl _), List.nil_append]) (by omega) (by omega)
  rw [framesN, hu, if_pos ⟨by omega, rfl⟩]
  simp only [Int.toNat_natCast]
  rw [ih]
theorem frames_laid (s : ByteArray) : framesS (laidS s) = (piecesS 512 s, (laidS s).size) := by
 unfold framesS
 exact framesN_of _ _ _ 0 (fun b hb => Nat.le_trans (pcs_size 512 _ s b hb) (by decide)) (by rw [List.drop_zero, laidS_nb]) (Nat.zero_le _) (by omega)
theorem framesN_sum (s : ByteArray) : ∀ (d p : Nat), p ≤ s.size → sumS (framesN s d p).1 + p ≤ s.size ∧ (framesN s d p).1.length + p ≤ s.size
 | 0, p, hp => by simp [framesN, sumS, hp]
 | d + 1, p, hp => by
  rw [framesN]
  split
  ·rename_i h
   obtain ⟨q, hq, h1, h2⟩ := unframe_ok s p h.2
   have ih := framesN_sum s d q h2
   rw [hq, Int.toNat_natCast]
   have hz : (unframeN s p).1.size + p + 8 ≤ q := by
    have h0 := h.2
    unfold unframeN at h0 hq ⊢
    split at h0
    ·exact absurd h0 (by decide)
    ·split at h0
     ·exact absurd h0 (by decide)
     ·split at h0
      ·exact absurd h0 (by decide)
      ·split at h0
       ·rename_i g1 g2 g3 g4
        rw [if_neg g1, if_neg g2, if_neg g3, if_pos g4] at hq ⊢
        simp only at hq ⊢
        rw [ByteArray.size_extract]
        omega
       ·exact absurd h0 (by decide)
   unfold sumS at ih ⊢
   simp only [List.map_cons, List.sum_cons, List.length_cons]
   omega
  ·simp [sumS, hp]
theorem frames_sum (s : ByteArray) : sumS (framesS s).1 ≤ s.size ∧ (framesS s).1.length ≤ s.size := by
 have := framesN_sum s (s.size + 1) 0 (Nat.zero_le _)
 exact ⟨by unfold framesS; omega, by unfold framesS; omega⟩
end Go.Proofs.YtpgbkeaaklglkaaGreatDoor.Q