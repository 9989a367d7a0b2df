/- A body of which some bits within 32 that stand side by side were turned is found by its sum; without further conditions. -/
import Derived.Test.YtdedhifmpmbojaaSpec2
import Derived.Lib.Strings
namespace Go.Proofs.Ytdedhifmpmbojaa.Pure
open Go.RowKit Go.Proofs.Ytdedhifmpmbojaa.Q Go.Proofs.YtdedhifmpmbojaaW.PrintWords Go.Proofs.YtdedhifmpmbojaaW.PrintLast Go.Proofs.YtdedhifmpmbojaaW.PrintMore
set_option linter.unusedVariables false
theorem xor_half (a b : Nat) : (a ^^^ b) / 2 = a / 2 ^^^ b / 2 := by
  have := Nat.shiftRight_xor_distrib (a := a) (b := b) (i := 1)
  simpa [Nat.shiftRight_eq_div_pow] using this
theorem xor_par (a b : Nat) : (a ^^^ b) % 2 = (a % 2 + b % 2) % 2 := by
  have h := Nat.xor_mod_two_pow (a := a) (b := b) (n := 1)
  rw [Nat.pow_one] at h
  rw [h]
  rcases Nat.mod_two_eq_zero_or_one a with ha | ha <;> rcases Nat.mod_two_eq_zero_or_one b with hb | hb <;> rw [ha, hb] <;> rfl
theorem st1_xor (a b : Nat) : st1 (a ^^^ b) = st1 a ^^^ st1 b := by
  unfold st1
  rw [xor_half, xor_par]
  have hP := Nat.xor_self 3988292384
  rcases Nat.mod_two_eq_zero_or_one a with ha | ha <;> rcases Nat.mod_two_eq_zero_or_one b with hb | hb <;> rw [ha, hb] <;> simp
  · rw [Nat.xor_assoc]
  · rw [Nat.xor_assoc, Nat.xor_assoc, Nat.xor_comm 3988292384 (b / 2)]
  · rw [Nat.xor_assoc, ← Nat.xor_assoc 3988292384 (b / 2) 3988292384, Nat.xor_comm 3988292384 (b / 2), Nat.xor_assoc (b / 2), hP, Nat.xor_zero]
theorem stN_xor : ∀ n a b, stN n (a ^^^ b) = stN n a ^^^ stN n b := by
  intro n
  induction n with
  | zero => intro a b; rfl
  | succ n ih => intro a b; rw [stN, st1_xor, ih]; rfl
theorem st1_even (r : Nat) : st1 (2 * r) = r := by
  unfold st1
  rw [if_neg (by omega), Nat.xor_zero]; omega
theorem stN_shift : ∀ n r, stN n (2 ^ n * r) = r := by
  intro n
  induction n with
  | zero => intro r; simp [stN]
  | succ n ih => intro r; rw [stN, Nat.pow_succ, Nat.mul_comm (2 ^ n) 2, Nat.mul_assoc, st1_even, ih]
theorem stN_add : ∀ n m x, stN (n + m) x = stN m (stN n x) := by
  intro n
  induction n with
  | zero => intro m x; simp [stN]
  | succ n ih => intro m x; rw [Nat.succ_add, stN, ih]; rfl
theorem st1_ne {x : Nat} (h : x < 2 ^ 32) (h0 : x ≠ 0) : st1 x ≠ 0 := by
  unfold st1
  intro e
  have e2 : x / 2 = (if x % 2 = 1 then 3988292384 else 0) := by
    have := congrArg (fun z => z ^^^ (if x % 2 = 1 then 3988292384 else 0)) e
    simpa only [Nat.xor_assoc, Nat.xor_self, Nat.xor_zero, Nat.zero_xor] using this
  split at e2 <;> omega
theorem stN_ne : ∀ n {x : Nat}, x < 2 ^ 32 → x ≠ 0 → stN n x ≠ 0 := by
  intro n
  induction n with
  | zero => intro x _ h; exact h
  | succ n ih => intro x h h0; exact ih (st1_lt h) (st1_ne h h0)
/-- bytes as one number, the first byte lowest -/
def valN : List Nat → Nat
  | [] => 0
  | b :: l => b ^^^ (2 ^ 8 * valN l)
theorem crc_val : ∀ (l : List Nat) (x : Nat), crc x l = stN (8 * l.length) (x ^^^ valN l) := by
  intro l
  induction l with
  | nil => intro x; simp [crc, valN, stN]
  | cons b l ih =>
    intro x
    have e : crc x (b :: l) = crc (stN 8 (x ^^^ b)) l := rfl
    rw [e, ih, valN, ← Nat.xor_assoc, List.length_cons, show 8 * (l.length + 1) = 8 + 8 * l.length by omega, stN_add, stN_xor 8 (x ^^^ b), stN_shift]
theorem crc_diff (x : Nat) (l m : List Nat) (hl : l.length = m.length) (f b : Nat) (hf : f ≤ 8 * l.length) (h : valN m = valN l ^^^ (2 ^ f * b)) (hb : b < 2 ^ 32) (hb0 : b ≠ 0) : crc x m ≠ crc x l := by
  intro e
  rw [crc_val, crc_val, ← hl, h, ← Nat.xor_assoc, stN_xor] at e
  have e2 : stN (8 * l.length) (2 ^ f * b) = 0 := by
    have := congrArg (fun z => stN (8 * l.length) (x ^^^ valN l) ^^^ z) e
    simp only [← Nat.xor_assoc, Nat.xor_self, Nat.zero_xor] at this
    exact this
  rw [show 8 * l.length = f + (8 * l.length - f) by omega, stN_add, stN_shift] at e2
  exact stN_ne _ hb hb0 e2
theorem xor_low (b v : Nat) (hb : b < 256) : b ^^^ (2 ^ 8 * v) = b + 256 * v := by
  have e : b ^^^ (2 ^ 8 * v) = 2 ^ 8 * v ||| b := by
    apply Nat.eq_of_testBit_eq
    intro i
    rw [Nat.testBit_xor, Nat.testBit_or, Nat.testBit_two_pow_mul]
    by_cases h : i ≥ 8
    · rw [Nat.testBit_lt_two_pow (x := b) (i := i) (Nat.lt_of_lt_of_le (show b < 2 ^ 8 from hb) (Nat.pow_le_pow_right (n := 2) (by decide) h))]
      simp
    · simp [h]
  rw [e, ← Nat.two_pow_add_eq_or_of_lt (i := 8) hb]; omega
theorem valN_inj : ∀ (l m : List Nat), l.length = m.length → (∀ b ∈ l, b < 256) → (∀ b ∈ m, b < 256) → valN l = valN m → l = m := by
  intro l
  induction l with
  | nil => intro m h _ _ _; cases m with | nil => rfl | cons b m => simp at h
  | cons b l ih =>
    intro m hlen hl hm h
    cases m with
    | nil => simp at hlen
    | cons c m =>
      have hb := hl b (by simp)
      have hc := hm c (by simp)
      rw [valN, valN, xor_low b _ hb, xor_low c _ hc] at h
      have h1 : b = c := by omega
      have h2 : valN l = valN m := by omega
      rw [h1, ih m (by simpa using hlen) (fun x hx => hl x (by simp [hx])) (fun x hx => hm x (by simp [hx])) h2]
theorem valN_set : ∀ (l : List Nat) (i j : Nat), i < l.length → valN (l.set i (l.getD i 0 ^^^ 2 ^ j)) = valN l ^^^ 2 ^ (8 * i + j) := by
  intro l
  induction l with
  | nil => intro i j h; simp at h
  | cons b l ih =>
    intro i j h
    cases i with
    | zero =>
      simp only [List.set_cons_zero, List.getD_cons_zero, valN, Nat.mul_zero, Nat.zero_add]
      rw [Nat.xor_assoc, Nat.xor_comm (2 ^ j), ← Nat.xor_assoc]
    | succ i =>
      simp only [List.set_cons_succ, List.getD_cons_succ, valN]
      rw [ih i j (by simpa using h), Nat.xor_assoc]
      congr 1
      have := Nat.shiftLeft_xor_distrib (a := valN l) (b := 2 ^ (8 * i + j)) (i := 8)
      rw [Nat.shiftLeft_eq, Nat.shiftLeft_eq, Nat.shiftLeft_eq] at this
      rw [Nat.mul_comm (2 ^ 8), this, Nat.mul_comm (valN l), ← Nat.pow_add, show 8 * i + j + 8 = 8 * (i + 1) + j by omega]
/-- a frame whose body was turned -/
theorem unframe_gen (s : ByteArray) (sm : Nat) (bd : List Nat) (hs : nb s = wideN bd.length 4 ++ wideN sm 4 ++ bd) (hn : bd.length ≤ 262144) (hsm : sm < 2 ^ 32) :
    unframe s 0 = (if sm = sumOf (wideN bd.length 4 ++ bd) then (s.extract 8 (8 + bd.length), ((8 + bd.length : Nat) : Int), 0) else (⟨#[]⟩, 0, 10)) ∧ nb (s.extract 8 (8 + bd.length)) = bd := by
  have hl := congrArg List.length hs
  have hw := wideN_len bd.length 4
  have hw2 := wideN_len sm 4
  rw [nb_len, List.length_append, List.length_append, hw, hw2] at hl
  have hs' : nb s = wideN bd.length 4 ++ (wideN sm 4 ++ bd) := by rw [hs, List.append_assoc]
  have r1 : rwide s 0 4 = bd.length := by
    rw [rwide_rdw s 0 4 (by omega), List.drop_zero, hs', List.take_append_of_le_length (by omega), List.take_of_length_le (by omega), rdw_wide 4 _ (by omega)]
  have r2 : rwide s (0 + 4) 4 = sm := by
    rw [rwide_rdw s (0 + 4) 4 (by omega), Nat.zero_add, hs', List.drop_append_of_le_length (by omega), List.drop_of_length_le (by omega), List.nil_append, List.take_append_of_le_length (by omega), List.take_of_length_le (by omega), rdw_wide 4 _ (by omega)]
  have eb : nb (s.extract 8 (8 + bd.length)) = bd := by
    rw [nb_extract, show 8 + bd.length - 8 = bd.length by omega, hs']
    rw [show (8 : Nat) = 4 + 4 from rfl, ← List.drop_drop, List.drop_append_of_le_length (by omega), List.drop_of_length_le (l := wideN bd.length 4) (by omega), List.nil_append, List.drop_append_of_le_length (by omega), List.drop_of_length_le (by omega), List.nil_append, List.take_length]
  have eh : nb (s.extract 0 4) = wideN bd.length 4 := by
    rw [nb_extract, hs', List.drop_zero, show 4 - 0 = 4 from rfl, List.take_append_of_le_length (by omega), List.take_of_length_le (by omega)]
  refine ⟨?_, eb⟩
  unfold unframe
  rw [if_neg (by omega), show (0 : Int).toNat = 0 from rfl]
  unfold unframeN
  rw [r1, if_neg (by omega), if_neg (by omega), if_neg (by omega), r2]
  simp only [Nat.zero_add]
  rw [nb_app, eh, eb]
theorem ints_nat (l : List Nat) (i : Nat) : rd (l.map fun (b : Nat) => (b : Int)) (i : Int) = ((l.getD i 0 : Nat) : Int) := by
  simp only [rd, Int.toNat_natCast, List.getD_eq_getElem?_getD, List.getElem?_map]
  cases l[i]? <;> rfl
theorem wraps_u8' (n : Int) (h₀ : 0 ≤ n) (h₁ : n < 2 ^ 8) : IntKind.u8.wrap n = n := by rw [IntKind.wrap_u8]; omega
theorem burst_end (b : ByteArray) (hb : b.size ≤ 262144) (bd : List Nat) (hlen : bd.length = b.size) (hbd : ∀ x ∈ bd, x < 256) (f d : Nat) (hf : f ≤ 8 * b.size) (hd : d < 2 ^ 32) (hv : valN bd = valN (nb b) ^^^ (2 ^ f * d)) (k : Nat) (hk : 100000000 < k) :
    ((frame_Unframe.f k (strOfNums ((wideN b.size 4 ++ wideN (sumOf (wideN b.size 4 ++ nb b)) 4 ++ bd).map fun (b : Nat) => (b : Int))) 0).bind fun bt159 => (if (strOfNums ((wideN b.size 4 ++ wideN (sumOf (wideN b.size 4 ++ nb b)) 4 ++ bd).map fun (b : Nat) => (b : Int))).toList = (frameS b).toList then ((stowagelaw02_awake.f k).bind fun t162 => (if t162 = true then (if bt159.2.2 = 0 then (some (bt159.1.toList == b.toList)) else (some false)) else (some false))) else ((stowagelaw02_awake.f k).bind fun t163 => (if t163 = true then (if bt159.2.2 = 10 then (some (bt159.1.toList == ([] : List UInt8))) else (some false)) else (some false))))) = some true := by
  have hw : ∀ n w, ∀ x ∈ wideN n w, x < 256 := by
    intro n w x hx
    simp only [wideN, List.mem_map] at hx
    obtain ⟨y, hy, rfl⟩ := hx
    have := wideL_range w n y hy
    omega
  generalize hs : strOfNums ((wideN b.size 4 ++ wideN (sumOf (wideN b.size 4 ++ nb b)) 4 ++ bd).map fun (b : Nat) => (b : Int)) = s
  have hnb : nb s = wideN bd.length 4 ++ wideN (sumOf (wideN b.size 4 ++ nb b)) 4 ++ bd := by
    rw [← hs, nb_strOf, List.map_map, hlen]
    · rw [show (Int.toNat ∘ fun (b : Nat) => (b : Int)) = id from rfl, List.map_id]
    · intro x hx
      simp only [List.mem_map] at hx
      obtain ⟨y, hy, rfl⟩ := hx
      have : y < 256 := by
        rcases List.mem_append.1 hy with hy | hy
        · rcases List.mem_append.1 hy with hy | hy
          · exact hw _ _ _ hy
          · exact hw _ _ _ hy
        · exact hbd _ hy
      omega
  have hsz : s.size = 8 + b.size := by
    have := congrArg List.length hnb
    rw [nb_len, List.length_append, List.length_append, wideN_len, wideN_len] at this
    omega
  obtain ⟨hu, hx⟩ := unframe_gen s (sumOf (wideN b.size 4 ++ nb b)) bd hnb (by omega) (sumOf_lt _)
  rw [oct_unframe s (by omega) 0 k (by omega), hu]
  simp only [Option.bind_some]
  rw [awake_true k (by omega)]
  simp only [Option.bind_some, if_true]
  have hfr : nb (frameS b) = wideN b.size 4 ++ wideN (sumOf (wideN b.size 4 ++ nb b)) 4 ++ nb b := by rw [nb_frameS, frameN, nb_len]
  by_cases he : bd = nb b
  · have es : s = frameS b := nb_inj (by rw [hnb, hfr, he, nb_len])
    have eb : s.extract 8 (8 + bd.length) = b := nb_inj (by rw [hx, he])
    rw [if_pos (by rw [es]), he, nb_len, if_pos rfl]
    rw [he, nb_len] at eb
    simp only [eb, if_true]
    simp
  · have hd0 : d ≠ 0 := by
      rintro rfl
      rw [Nat.mul_zero, Nat.xor_zero] at hv
      exact he (valN_inj bd (nb b) (by rw [hlen, nb_len]) hbd (nb_lt b) hv)
    have hne : sumOf (wideN b.size 4 ++ nb b) ≠ sumOf (wideN bd.length 4 ++ bd) := by
      rw [hlen]
      unfold sumOf
      rw [crc_app, crc_app]
      have hc := crc_diff (crc 4294967295 (wideN b.size 4)) (nb b) bd (by rw [hlen, nb_len]) f d (by rw [nb_len]; exact hf) hv hd hd0
      have hl0 := crc_lt (wideN b.size 4) (hw _ _) (x := 4294967295) (by decide)
      have hl1 := crc_lt bd hbd hl0
      have hl2 := crc_lt (nb b) (nb_lt b) hl0
      omega
    have hne2 : ¬ s.toList = (frameS b).toList := by
      intro e
      have e2 : s = frameS b := by
        have e3 := congrArg List.toArray e
        rw [Lib.toList_data, Lib.toList_data] at e3
        exact ByteArray.ext (by simpa using e3)
      have e3 := congrArg nb e2
      rw [hnb, hfr, hlen] at e3
      exact he (List.append_cancel_left e3)
    rw [if_neg hne2, if_neg hne]
    decide +kernel
theorem xor_u8 (a b : Nat) (ha : a < 2 ^ 8) (hb : b < 2 ^ 8) : Go.bits .xor .u8 a b = ((a ^^^ b : Nat) : Int) := bits_xor_nat .u8 8 (by decide) wraps_u8' a b ha hb
theorem one_shl (j : Nat) (h : j < 8) : shl .u8 1 (j : Int) = ((2 ^ j : Nat) : Int) := by
  unfold shl
  rw [show min (j : Int).toNat IntKind.u8.bits = j from by simp [IntKind.bits]; omega, Int.one_mul]
  have : (2 : Nat) ^ j ≤ 2 ^ 7 := Nat.pow_le_pow_right (by decide) (by omega)
  have e : ((2 : Int) ^ j) = ((2 ^ j : Nat) : Int) := by simp
  rw [e]
  exact wraps_u8' _ (Int.natCast_nonneg _) (by omega)
theorem burst_ix (p : Nat) (h : p < 2097184) : wrap64 (Int.tdiv ((p : Nat) : Int) 8) = ((p / 8 : Nat) : Int) ∧ wrap64 (8 + ((p / 8 : Nat) : Int)) = ((8 + p / 8 : Nat) : Int) ∧ IntKind.u64.wrap (Int.tmod ((p : Nat) : Int) 8) = ((p % 8 : Nat) : Int) := by
  refine ⟨?_, ?_, ?_⟩
  · rw [Int.tdiv_eq_ediv_of_nonneg (by omega), IntWalk.wrap64_in _ (by omega)]; omega
  · rw [IntWalk.wrap64_in _ (by omega)]; omega
  · rw [Int.tmod_eq_emod_of_nonneg (by omega), IntWalk.u64_in _ (by omega)]; omega
/-- a fact that linear arithmetic is not to look at -/
structure Kept (p : Prop) : Prop where mk :: (out : p)
theorem burst_loop (b : ByteArray) (hb : b.size ≤ 262144) (hb0 : 0 < b.size) (bst : Int) (f : Nat) (hf : f < 8 * b.size) : ∀ (e i : Nat), e + i = 32 → ∀ (bd : List Nat) (d : Nat), bd.length = b.size → (∀ x ∈ bd, x < 256) → Kept (d < 2 ^ i) → Kept (valN bd = valN (nb b) ^^^ (2 ^ f * d)) → ∀ k, 100000010 + e < k →
    stowagelaw02_FrameBurst.l0 k b bst (frameS b) ((wideN b.size 4 ++ wideN (sumOf (wideN b.size 4 ++ nb b)) 4 ++ bd).map fun (b : Nat) => (b : Int)) ((8 * b.size : Nat) : Int) f i = some true := by
  intro e
  induction e with
  | zero =>
    intro i hi bd d hlen hbd hd hv k hk
    obtain ⟨k, rfl⟩ : ∃ m, k = m + 1 := ⟨k - 1, by omega⟩
    simp only [stowagelaw02_FrameBurst.l0]
    rw [if_neg (by omega)]
    obtain rfl : i = 32 := by omega
    have hk' : 100000000 < k := by omega
    exact burst_end b hb bd hlen hbd f d (Nat.le_of_lt hf) hd.out hv.out k hk'
  | succ e ih =>
    intro i hi bd d hlen hbd hd hv k hk
    obtain ⟨k, rfl⟩ : ∃ m, k = m + 1 := ⟨k - 1, by omega⟩
    have hpw : Kept (d < 2 ^ (i + 1)) := ⟨Nat.lt_of_lt_of_le hd.out (Nat.pow_le_pow_right (by decide) (Nat.le_succ i))⟩
    have e1 : wrap64 ((i : Int) + 1) = ((i + 1 : Nat) : Int) := by rw [IntWalk.wrap64_in _ (by omega)]; omega
    have stay : ∀ kk, 100000010 + e < kk → stowagelaw02_FrameBurst.l0 kk b bst (frameS b) ((wideN b.size 4 ++ wideN (sumOf (wideN b.size 4 ++ nb b)) 4 ++ bd).map fun (b : Nat) => (b : Int)) ((8 * b.size : Nat) : Int) f ((i + 1 : Nat) : Int) = some true :=
      fun kk hkk => ih (i + 1) (by omega) bd d hlen hbd hpw hv kk hkk
    have e2 : wrap64 ((f : Int) + i) = ((f + i : Nat) : Int) := by rw [IntWalk.wrap64_in _ (by omega)]; omega
    simp only [stowagelaw02_FrameBurst.l0]
    rw [if_pos (by omega), e1, e2]
    by_cases h1 : ((f + i : Nat) : Int) < ((8 * b.size : Nat) : Int)
    · rw [if_pos h1, if_pos (by rw [IntWalk.u64_in _ (by omega)]; omega)]
      by_cases h2 : Go.bits .and .u32 (shr .u32 bst (IntKind.u64.wrap (i : Int))) 1 = 1
      · rw [if_pos h2]
        clear h2 e1 e2
        have hp : f + i < 8 * b.size := by omega
        obtain ⟨e3, e4, e5⟩ := burst_ix (f + i) (by omega)
        rw [e3, e4, e5]
        have hw := wideN_len b.size 4
        have hw2 := wideN_len (sumOf (wideN b.size 4 ++ nb b)) 4
        have hq : (f + i) / 8 < b.size := Nat.div_lt_of_lt_mul hp
        have hlen8 : ((wideN b.size 4 ++ wideN (sumOf (wideN b.size 4 ++ nb b)) 4 ++ bd).map fun (b : Nat) => (b : Int)).length = 8 + b.size := by
          rw [List.length_map, List.length_append, List.length_append, hw, hw2, hlen]
        have hq2 : ((8 + (f + i) / 8 : Nat) : Int) < (((8 + b.size : Nat) : Nat) : Int) := Int.ofNat_lt.2 (Nat.add_lt_add_left hq 8)
        rw [if_pos (Int.natCast_nonneg _), hlen8, if_pos hq2, if_pos (Int.natCast_nonneg _)]
        have hi8 : (f + i) / 8 < bd.length := by rw [hlen]; exact hq
        have hget : (wideN b.size 4 ++ wideN (sumOf (wideN b.size 4 ++ nb b)) 4 ++ bd).getD (8 + (f + i) / 8) 0 = bd.getD ((f + i) / 8) 0 := by
          rw [List.getD_eq_getElem?_getD, List.getElem?_append_right (by rw [List.length_append]; omega), List.length_append, hw, hw2, show 8 + (f + i) / 8 - (4 + 4) = (f + i) / 8 by omega, ← List.getD_eq_getElem?_getD]
        have hx : bd.getD ((f + i) / 8) 0 < 256 := by
          rw [List.getD_eq_getElem?_getD, List.getElem?_eq_getElem hi8]
          exact hbd _ (List.getElem_mem hi8)
        have hj : (f + i) % 8 < 8 := Nat.mod_lt _ (by decide)
        have hpow : Kept (2 ^ ((f + i) % 8) < 2 ^ 8) := ⟨Nat.pow_lt_pow_right (by decide) hj⟩
        rw [ints_nat, hget, one_shl _ hj, xor_u8 _ _ hx hpow.out, Int.toNat_natCast]
        have hset : (((wideN b.size 4 ++ wideN (sumOf (wideN b.size 4 ++ nb b)) 4 ++ bd).map fun (b : Nat) => (b : Int)).set (8 + (f + i) / 8) ((bd.getD ((f + i) / 8) 0 ^^^ 2 ^ ((f + i) % 8) : Nat) : Int)) =
            (wideN b.size 4 ++ wideN (sumOf (wideN b.size 4 ++ nb b)) 4 ++ bd.set ((f + i) / 8) (bd.getD ((f + i) / 8) 0 ^^^ 2 ^ ((f + i) % 8))).map fun (b : Nat) => (b : Int) := by
          rw [← List.map_set, List.set_append_right _ _ (by rw [List.length_append]; omega), List.length_append, hw, hw2, show 8 + (f + i) / 8 - (4 + 4) = (f + i) / 8 by omega]
        rw [hset]
        refine ih (i + 1) (by omega) _ (d ^^^ 2 ^ i) (by rw [List.length_set]; exact hlen) ?_ ⟨Nat.xor_lt_two_pow hpw.out (Nat.pow_lt_pow_right (by decide) (Nat.lt_succ_self i))⟩ ⟨?_⟩ k (by omega)
        · intro x hxm
          rcases List.mem_or_eq_of_mem_set hxm with hxm | rfl
          · exact hbd x hxm
          · exact Nat.xor_lt_two_pow (n := 8) hx hpow.out
        · rw [valN_set bd _ _ hi8, hv.out, Nat.xor_assoc]
          congr 1
          have := Nat.shiftLeft_xor_distrib (a := d) (b := 2 ^ i) (i := f)
          rw [Nat.shiftLeft_eq, Nat.shiftLeft_eq, Nat.shiftLeft_eq] at this
          rw [Nat.mul_comm (2 ^ f) (d ^^^ 2 ^ i), this, Nat.mul_comm d, ← Nat.pow_add, show 8 * ((f + i) / 8) + (f + i) % 8 = i + f by omega]
      · rw [if_neg h2]
        exact stay k (by omega)
    · rw [if_neg h1]
      exact stay k (by omega)
theorem burst_all (b : ByteArray) (at' bst : Int) (hc : -9223372036854775808 ≤ at' ∧ at' ≤ 9223372036854775807) (k : Nat) (hk : 100000200 < k) : stowagelaw02_FrameBurst.f k b at' bst = some true := by
  obtain ⟨k, rfl⟩ : ∃ m, k = m + 1 := ⟨k - 1, by omega⟩
  unfold stowagelaw02_FrameBurst.f
  rw [oct_frame b _ (by omega)]
  simp only [Option.bind_some]
  have awk : ∀ s, stowagelaw02_FrameBurst.j0 (k + 1) b at' bst s true = some true := by
    intro s
    simp only [stowagelaw02_FrameBurst.j0]
    rw [if_pos trivial, awake_true _ (by omega)]; rfl
  by_cases h : 262144 < b.size
  · rw [if_pos h]
    simp only
    rw [if_neg (by decide)]
    exact awk _
  · rw [if_neg h]
    simp only [if_true]
    by_cases h0 : b.size = 0
    · rw [show ((b.size : Int) == 0) = true by rw [beq_iff_eq]; omega]
      exact awk _
    · rw [show ((b.size : Int) == 0) = false by rw [beq_eq_false_iff_ne]; omega]
      simp only [stowagelaw02_FrameBurst.j0]
      have hz := frameS_size b
      have e1 : wrap64 (8 + (b.size : Int)) = 8 + (b.size : Int) := IntWalk.wrap64_in _ (by omega)
      have e2 : wrap64 (8 * (b.size : Int)) = ((8 * b.size : Nat) : Int) := by rw [IntWalk.wrap64_in _ (by omega)]; omega
      rw [if_neg (by decide), e1, e2, if_pos (by omega), if_pos (by omega), if_neg (by omega)]
      have hpos : (0 : Int) < ((8 * b.size : Nat) : Int) := by omega
      have hm1 : -((8 * b.size : Nat) : Int) < Int.tmod at' ((8 * b.size : Nat) : Int) := Int.lt_tmod_of_pos at' hpos
      have hm2 : Int.tmod at' ((8 * b.size : Nat) : Int) < ((8 * b.size : Nat) : Int) := Int.tmod_lt_of_pos at' hpos
      have e3 : wrap64 (Int.tmod at' ((8 * b.size : Nat) : Int) + ((8 * b.size : Nat) : Int)) = Int.tmod at' ((8 * b.size : Nat) : Int) + ((8 * b.size : Nat) : Int) := IntWalk.wrap64_in _ (by omega)
      rw [e3]
      have hm3 : 0 ≤ Int.tmod (Int.tmod at' ((8 * b.size : Nat) : Int) + ((8 * b.size : Nat) : Int)) ((8 * b.size : Nat) : Int) := Int.tmod_nonneg _ (by omega)
      have hm4 : Int.tmod (Int.tmod at' ((8 * b.size : Nat) : Int) + ((8 * b.size : Nat) : Int)) ((8 * b.size : Nat) : Int) < ((8 * b.size : Nat) : Int) := Int.tmod_lt_of_pos _ hpos
      obtain ⟨f, hf⟩ := Int.eq_ofNat_of_zero_le hm3
      rw [hf] at hm4 ⊢
      have hbytes : bytesOf (frameS b) = (wideN b.size 4 ++ wideN (sumOf (wideN b.size 4 ++ nb b)) 4 ++ nb b).map fun (b : Nat) => (b : Int) := by
        have : bytesOf (frameS b) = (nb (frameS b)).map fun (b : Nat) => (b : Int) := by simp [bytesOf, nb]
        rw [this, nb_frameS, frameN, nb_len]
      rw [hbytes]
      exact burst_loop b (by omega) (by omega) bst f (by omega) 32 0 (by omega) (nb b) 0 (nb_len b) (nb_lt b) ⟨by decide⟩ ⟨by simp⟩ k (by omega)
theorem FrameBurst : stowagelaw02_FrameBurst.Pure := by
  intro a0 a1 a2 h0 h1 h2
  have hc : -9223372036854775808 ≤ a1 ∧ a1 ≤ 9223372036854775807 := by
    simp [Lit.wf, IntKind.min, IntKind.max, IntKind.signed, IntKind.bits] at h1; omega
  exact ⟨100000201, burst_all a0 a1 a2 hc _ (by omega)⟩

end Go.Proofs.Ytdedhifmpmbojaa.Pure
