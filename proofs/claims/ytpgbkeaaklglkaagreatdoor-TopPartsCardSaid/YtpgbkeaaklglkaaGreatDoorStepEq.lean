
/- The document's step and digest.block reckon the same: in plain Lean. -/
import Derived.Test.YtpgbkeaaklglkaaGreatDoorDb
import Derived.Test.YtpgbkeaaklglkaaGreatDoorBlockD
namespace Go.Proofs.YtpgbkeaaklglkaaGreatDoor.Q
open Go.RowKit Go.Proofs.YtpgbkeaaklglkaaGreatDoorW.PrintWords Go.Proofs.YtpgbkeaaklglkaaGreatDoorW.PrintLast Go.Proofs.YtpgbkeaaklglkaaGreatDoorW.PrintMore
set_option linter.unusedVariables false
set_option linter.unusedSimpArgs false
set_option maxHeartbeats 10000000
set_option maxRecDepth 100000
theorem wraps_u32 (n : Int) (h₀ : 0 ≤ n) (h₁ : n < 2 ^ 32) : IntKind.u32.wrap n = n := by rw [IntKind.wrap_u32]; omega
theorem or_u32 (a b : Nat) (ha : a < 2 ^ 32) (hb : b < 2 ^ 32) : Go.bits .or .u32 (a : Int) (b : Int) = ((a ||| b : Nat) : Int) := by
  have ha' : a % 2 ^ IntKind.u32.bits = a := Nat.mod_eq_of_lt ha
  have hb' : b % 2 ^ IntKind.u32.bits = b := Nat.mod_eq_of_lt hb
  simp only [bits, BitVec.ofInt_natCast, BitVec.toNat_or, BitVec.toNat_ofNat, ha', hb']
  exact wraps_u32 _ (Int.natCast_nonneg _) (by exact_mod_cast Nat.or_lt_two_pow ha hb)
theorem xor_u32 (a b : Nat) (ha : a < 2 ^ 32) (hb : b < 2 ^ 32) : Go.bits .xor .u32 (a : Int) (b : Int) = ((a ^^^ b : Nat) : Int) := by
  have ha' : a % 2 ^ IntKind.u32.bits = a := Nat.mod_eq_of_lt ha
  have hb' : b % 2 ^ IntKind.u32.bits = b := Nat.mod_eq_of_lt hb
  simp only [bits, BitVec.ofInt_natCast, BitVec.toNat_xor, BitVec.toNat_ofNat, ha', hb']
  exact wraps_u32 _ (Int.natCast_nonneg _) (by exact_mod_cast Nat.xor_lt_two_pow ha hb)
theorem not_u32 (a : Nat) (ha : a < 2 ^ 32) : Go.bits .xor .u32 4294967295 (a : Int) = ((4294967295 - a : Nat) : Int) := by
  have h := xor_u32 4294967295 a (by decide) ha
  have e : (4294967295 : Nat) ^^^ a = 4294967295 - a := by
    have hv : a = (BitVec.ofNat 32 a).toNat := by simp; omega
    have h3 : (~~~ (BitVec.ofNat 32 a)).toNat = 4294967295 - a := by rw [BitVec.toNat_not, ← hv]
    have h4 : (BitVec.allOnes 32 ^^^ BitVec.ofNat 32 a).toNat = 4294967295 ^^^ a := by rw [BitVec.toNat_xor, ← hv]; rfl
    rw [← h4, ← h3, BitVec.allOnes_xor]
  rw [← e]; exact h
theorem not_int (x : Int) (h0 : 0 ≤ x) (h1 : x < 4294967296) : Go.bits .xor .u32 IntKind.u32.max x = (4294967295 - x) % 4294967296 := by
  obtain ⟨a, rfl⟩ := Int.eq_ofNat_of_zero_le h0
  have ha : a < 4294967296 := by omega
  rw [show IntKind.u32.max = 4294967295 from rfl, not_u32 a ha]
  omega
theorem or_comm (x y : Int) : Go.bits .or .u32 x y = Go.bits .or .u32 y x := by
  simp only [bits, BitVec.or_comm]
theorem turn_at (x n m : Int) (h0 : 0 ≤ n) (hm : IntKind.u64.wrap (32 - n) = m) (h1 : 0 ≤ m) (hn : 32 - m = n) : stowageref03_turn.f x n = some (rotl x m) := by
  unfold stowageref03_turn.f
  rw [if_pos h0, hm, if_pos h1, rotl, or_comm, hn]
/-- four bytes as a word: side by side by 'or' or by sums -/
theorem word_eq (a b c d : Int) (ha : 0 ≤ a ∧ a < 256) (hb : 0 ≤ b ∧ b < 256) (hc : 0 ≤ c ∧ c < 256) (hd : 0 ≤ d ∧ d < 256) :
    sch1 a b c d = a * 16777216 + b * 65536 + c * 256 + d := by
  obtain ⟨a, rfl⟩ := Int.eq_ofNat_of_zero_le ha.1
  obtain ⟨b, rfl⟩ := Int.eq_ofNat_of_zero_le hb.1
  obtain ⟨c, rfl⟩ := Int.eq_ofNat_of_zero_le hc.1
  obtain ⟨d, rfl⟩ := Int.eq_ofNat_of_zero_le hd.1
  have ha := ha.2
  have hb := hb.2
  have hc := hc.2
  have hd := hd.2
  unfold sch1
  rw [show (a : Int) % 4294967296 * 16777216 % 4294967296 = ((2 ^ 24 * a : Nat) : Int) by omega, show (b : Int) % 4294967296 * 65536 % 4294967296 = ((2 ^ 16 * b : Nat) : Int) by omega,
    show (c : Int) % 4294967296 * 256 % 4294967296 = ((2 ^ 8 * c : Nat) : Int) by omega, show (d : Int) % 4294967296 = ((d : Nat) : Int) by omega]
  rw [or_u32 _ _ (by omega) (by omega), ← Nat.two_pow_add_eq_or_of_lt (by omega : 2 ^ 16 * b < 2 ^ 24) a]
  rw [show 2 ^ 24 * a + 2 ^ 16 * b = 2 ^ 16 * (2 ^ 8 * a + b) by omega]
  rw [or_u32 _ _ (by omega) (by omega), ← Nat.two_pow_add_eq_or_of_lt (by omega : 2 ^ 8 * c < 2 ^ 16)]
  rw [show 2 ^ 16 * (2 ^ 8 * a + b) + 2 ^ 8 * c = 2 ^ 8 * (2 ^ 16 * a + 2 ^ 8 * b + c) by omega]
  rw [or_u32 _ _ (by omega) (by omega), ← Nat.two_pow_add_eq_or_of_lt (by omega : d < 2 ^ 8)]
  omega
def InR (xs : List Int) : Prop := ∀ x ∈ xs, 0 ≤ x ∧ x < 4294967296
theorem turn2 (x : Int) : stowageref03_turn.f x 2 = some (rotl x 30) := turn_at x 2 30 (by decide) (by decide) (by decide) (by decide)
theorem turn6 (x : Int) : stowageref03_turn.f x 6 = some (rotl x 26) := turn_at x 6 26 (by decide) (by decide) (by decide) (by decide)
theorem turn7 (x : Int) : stowageref03_turn.f x 7 = some (rotl x 25) := turn_at x 7 25 (by decide) (by decide) (by decide) (by decide)
theorem turn11 (x : Int) : stowageref03_turn.f x 11 = some (rotl x 21) := turn_at x 11 21 (by decide) (by decide) (by decide) (by decide)
theorem turn13 (x : Int) : stowageref03_turn.f x 13 = some (rotl x 19) := turn_at x 13 19 (by decide) (by decide) (by decide) (by decide)
theorem turn17 (x : Int) : stowageref03_turn.f x 17 = some (rotl x 15) := turn_at x 17 15 (by decide) (by decide) (by decide) (by decide)
theorem turn18 (x : Int) : stowageref03_turn.f x 18 = some (rotl x 14) := turn_at x 18 14 (by decide) (by decide) (by decide) (by decide)
theorem turn19 (x : Int) : stowageref03_turn.f x 19 = some (rotl x 13) := turn_at x 19 13 (by decide) (by decide) (by decide) (by decide)
theorem turn22 (x : Int) : stowageref03_turn.f x 22 = some (rotl x 10) := turn_at x 22 10 (by decide) (by decide) (by decide) (by decide)
theorem turn25 (x : Int) : stowageref03_turn.f x 25 = some (rotl x 7) := turn_at x 25 7 (by decide) (by decide) (by decide) (by decide)
def refUp (t4 t5 t6 t7 k x : Int) : Int := ((((((t7 + (Go.bits .xor .u32 (Go.bits .xor .u32 (rotl t4 26) (rotl t4 21)) (rotl t4 7))) % 4294967296) + (Go.bits .xor .u32 (Go.bits .and .u32 t4 t5) (Go.bits .and .u32 ((4294967295 - t4) % 4294967296) t6))) % 4294967296) + k) % 4294967296 + x) % 4294967296
def refDown (t0 t1 t2 : Int) : Int := ((Go.bits .xor .u32 (Go.bits .xor .u32 (rotl t0 30) (rotl t0 19)) (rotl t0 10)) + (Go.bits .xor .u32 (Go.bits .xor .u32 (Go.bits .and .u32 t0 t1) (Go.bits .and .u32 t0 t2)) (Go.bits .and .u32 t1 t2))) % 4294967296
theorem up_eq (t4 t5 t6 t7 k x : Int) (h : 0 ≤ t4 ∧ t4 < 4294967296) : refUp t4 t5 t6 t7 k x = upOf t4 t5 t6 t7 k x := by
  unfold refUp upOf
  rw [rotv_at _ _ _ (rot6 t4), rotv_at _ _ _ (rot11 t4), rotv_at _ _ _ (rot25 t4), not_int t4 h.1 h.2]
  simp only [Int.emod_add_emod]
theorem down_eq (t0 t1 t2 : Int) : refDown t0 t1 t2 = downOf t0 t1 t2 := by
  unfold refDown downOf
  rw [rotv_at _ _ _ (rot2 t0), rotv_at _ _ _ (rot13 t0), rotv_at _ _ _ (rot22 t0)]
theorem number_at (r : Nat) (h : r < 64) : stowageref03_number.f (r : Int) = some (roundsL.getD r 0) := by
  unfold stowageref03_number.f
  rw [if_pos (by omega)]
  rfl
theorem rd_nat (xs : List Int) (n : Nat) : rd xs (n : Int) = xs.getD n 0 := rfl
theorem step_l1 (s ws : List Int) (hw : ws.length = 64) (a0 a1 a2 a3 a4 a5 a6 a7 : Int) : ∀ (d r k : Nat) (t0 t1 t2 t3 t4 t5 t6 t7 : Int), r + d = 64 → roundsOf s ws r = [t0, t1, t2, t3, t4, t5, t6, t7] → InR [t0, t1, t2, t3, t4, t5, t6, t7] → d < k →
    ∃ u0 u1 u2 u3 u4 u5 u6 u7, roundsOf s ws 64 = [u0, u1, u2, u3, u4, u5, u6, u7] ∧ stowageref03_step.l1 k ws t0 t1 t2 t3 t4 t5 t6 t7 (r : Int) a0 a1 a2 a3 a4 a5 a6 a7 = some ((a0 + u0) % 4294967296, (a1 + u1) % 4294967296, (a2 + u2) % 4294967296, (a3 + u3) % 4294967296, (a4 + u4) % 4294967296, (a5 + u5) % 4294967296, (a6 + u6) % 4294967296, (a7 + u7) % 4294967296)
  | 0, r, k, t0, t1, t2, t3, t4, t5, t6, t7, hr, ht, hi, hk => by
    obtain ⟨k, rfl⟩ : ∃ k', k = k' + 1 := ⟨k - 1, by omega⟩
    obtain rfl : r = 64 := by omega
    refine ⟨t0, t1, t2, t3, t4, t5, t6, t7, ht, ?_⟩
    simp only [stowageref03_step.l1]
    rw [if_neg (by omega)]
  | d + 1, r, k, t0, t1, t2, t3, t4, t5, t6, t7, hr, ht, hi, hk => by
    obtain ⟨k, rfl⟩ : ∃ k', k = k' + 1 := ⟨k - 1, by omega⟩
    have h4 := hi t4 (by simp)
    have hn : roundsOf s ws (r + 1) = [(refUp t4 t5 t6 t7 (roundsL.getD r 0) (ws.getD r 0) + refDown t0 t1 t2) % 4294967296, t0, t1, t2, (t3 + refUp t4 t5 t6 t7 (roundsL.getD r 0) (ws.getD r 0)) % 4294967296, t4, t5, t6] := by
      rw [roundsOf, ht, up_eq _ _ _ _ _ _ h4, down_eq]
      rfl
    have hi' : InR [(refUp t4 t5 t6 t7 (roundsL.getD r 0) (ws.getD r 0) + refDown t0 t1 t2) % 4294967296, t0, t1, t2, (t3 + refUp t4 t5 t6 t7 (roundsL.getD r 0) (ws.getD r 0)) % 4294967296, t4, t5, t6] := by
      intro x hx
      simp only [List.mem_cons, List.not_mem_nil, or_false] at hx
      rcases hx with rfl | rfl | rfl | rfl | rfl | rfl | rfl | rfl
      · omega
      · exact hi _ (by simp)
      · exact hi _ (by simp)
      · exact hi _ (by simp)
      · omega
      · exact hi _ (by simp)
      · exact hi _ (by simp)
      · exact hi _ (by simp)
    obtain ⟨u0, u1, u2, u3, u4, u5, u6, u7, hu, hl⟩ := step_l1 s ws hw a0 a1 a2 a3 a4 a5 a6 a7 d (r + 1) k _ _ _ _ _ _ _ _ (by omega) hn hi' (by omega)
    refine ⟨u0, u1, u2, u3, u4, u5, u6, u7, hu, ?_⟩
    rw [← hl]
    simp only [stowageref03_step.l1]
    rw [if_pos (by omega), turn6, Option.bind_some, turn11, Option.bind_some, turn25, Option.bind_some, number_at r (by omega), Option.bind_some, if_pos (by omega), if_pos (by rw [hw]; omega), turn2, Option.bind_some, turn13, Option.bind_some, turn22, Option.bind_some]
    rw [show wrap64 ((r : Int) + 1) = ((r + 1 : Nat) : Int) by rw [IntWalk.wrap64_in _ (by omega)]; omega, rd_nat]
    rfl
theorem getD_in {xs : List Int} {P : Int → Prop} (h : ∀ x ∈ xs, P x) (n : Nat) (hn : n < xs.length) : P (xs.getD n 0) := by
  rw [List.getD_eq_getElem?_getD, List.getElem?_eq_getElem hn]
  exact h _ (List.getElem_mem hn)
theorem sch2_eq (x16 x7 x y : Int) : sch2 x16 x7 x y = ((((((x16 + (Go.bits .xor .u32 (Go.bits .xor .u32 (rotl x 25) (rotl x 14)) (x / 8))) % 4294967296) + x7) % 4294967296) + (Go.bits .xor .u32 (Go.bits .xor .u32 (rotl y 15) (rotl y 13)) (y / 1024))) % 4294967296) := by
  unfold sch2
  generalize Go.bits .xor .u32 (Go.bits .xor .u32 (rotl x 25) (rotl x 14)) (x / 8) = X
  generalize Go.bits .xor .u32 (Go.bits .xor .u32 (rotl y 15) (rotl y 13)) (y / 1024) = Y
  omega
theorem step_l0 (b : List Int) (hb : b.length = 64) (hr : ∀ x ∈ b, 0 ≤ x ∧ x < 256) (a0 a1 a2 a3 a4 a5 a6 a7 : Int) : ∀ (d n k : Nat), n + d = 64 → d < k →
    stowageref03_step.l0 k b (sched b n) (n : Int) a0 a1 a2 a3 a4 a5 a6 a7 = stowageref03_step.l1 (k - d - 1) (sched b 64) a0 a1 a2 a3 a4 a5 a6 a7 0 a0 a1 a2 a3 a4 a5 a6 a7
  | 0, n, k, hn, hk => by
    obtain ⟨k, rfl⟩ : ∃ k', k = k' + 1 := ⟨k - 1, by omega⟩
    obtain rfl : n = 64 := by omega
    simp only [stowageref03_step.l0]
    rw [if_neg (by omega)]
    rfl
  | d + 1, n, k, hn, hk => by
    obtain ⟨k, rfl⟩ : ∃ k', k = k' + 1 := ⟨k - 1, by omega⟩
    have ih := step_l0 b hb hr a0 a1 a2 a3 a4 a5 a6 a7 d (n + 1) k (by omega) (by omega)
    rw [show k + 1 - (d + 1) - 1 = k - d - 1 by omega, ← ih]
    have hl := sched_len b n
    simp only [stowageref03_step.l0]
    rw [if_pos (by omega)]
    have hs : wrap64 ((n : Int) + 1) = ((n + 1 : Nat) : Int) := by rw [IntWalk.wrap64_in _ (by omega)]; omega
    by_cases h16 : n < 16
    · rw [if_pos (by omega)]
      have e0 : wrap64 (4 * (n : Int)) = ((4 * n : Nat) : Int) := by rw [IntWalk.wrap64_in _ (by omega)]; omega
      have e1 : wrap64 (((4 * n : Nat) : Int) + 1) = ((4 * n + 1 : Nat) : Int) := by rw [IntWalk.wrap64_in _ (by omega)]; omega
      have e2 : wrap64 (((4 * n : Nat) : Int) + 2) = ((4 * n + 2 : Nat) : Int) := by rw [IntWalk.wrap64_in _ (by omega)]; omega
      have e3 : wrap64 (((4 * n : Nat) : Int) + 3) = ((4 * n + 3 : Nat) : Int) := by rw [IntWalk.wrap64_in _ (by omega)]; omega
      rw [e0, e1, e2, e3, hb, hl, hs]
      rw [if_pos (by omega), if_pos (by omega), if_pos (by omega), if_pos (by omega), if_pos (by omega), if_pos (by omega), if_pos (by omega), if_pos (by omega), if_pos (by omega), if_pos (by omega)]
      congr 1
      rw [sched, wv, if_pos h16]
      have q0 := getD_in hr (4 * n) (by omega)
      have q1 := getD_in hr (4 * n + 1) (by omega)
      have q2 := getD_in hr (4 * n + 2) (by omega)
      have q3 := getD_in hr (4 * n + 3) (by omega)
      rw [word_eq _ _ _ _ q0 q1 q2 q3, rd_nat, rd_nat, rd_nat, rd_nat, Int.toNat_natCast]
      congr 1
      omega
    · rw [if_neg (by omega)]
      have e16 : wrap64 ((n : Int) - 16) = ((n - 16 : Nat) : Int) := by rw [IntWalk.wrap64_in _ (by omega)]; omega
      have e15 : wrap64 ((n : Int) - 15) = ((n - 15 : Nat) : Int) := by rw [IntWalk.wrap64_in _ (by omega)]; omega
      have e7 : wrap64 ((n : Int) - 7) = ((n - 7 : Nat) : Int) := by rw [IntWalk.wrap64_in _ (by omega)]; omega
      have e2 : wrap64 ((n : Int) - 2) = ((n - 2 : Nat) : Int) := by rw [IntWalk.wrap64_in _ (by omega)]; omega
      rw [e16, e15, e7, e2, hl, hs]
      rw [if_pos (by omega), if_pos (by omega), turn7, Option.bind_some, turn18, Option.bind_some, if_pos (by omega), if_pos (by omega), turn17, Option.bind_some, turn19, Option.bind_some, if_pos (by omega), if_pos (by omega), if_pos (by omega), if_pos (by omega), if_pos (by omega), if_pos (by omega)]
      congr 1
      rw [sched, wv, if_neg h16, sch2_eq, rd_nat, rd_nat, rd_nat, rd_nat, Int.toNat_natCast]
theorem blockF_of {s0 s1 s2 s3 s4 s5 s6 s7 u0 u1 u2 u3 u4 u5 u6 u7 : Int} {b : List Int} (h : roundsOf [s0, s1, s2, s3, s4, s5, s6, s7] (sched b 64) 64 = [u0, u1, u2, u3, u4, u5, u6, u7]) :
    blockF [s0, s1, s2, s3, s4, s5, s6, s7] b = [(s0 + u0) % 4294967296, (s1 + u1) % 4294967296, (s2 + u2) % 4294967296, (s3 + u3) % 4294967296, (s4 + u4) % 4294967296, (s5 + u5) % 4294967296, (s6 + u6) % 4294967296, (s7 + u7) % 4294967296] := by
  rw [blockF, h]
  rfl
/-- the document's step is the program's block -/
theorem step_eq (k : Nat) (hk : 130 < k) (s0 s1 s2 s3 s4 s5 s6 s7 : Int) (b : List Int) (hb : b.length = 64) (hr : ∀ x ∈ b, 0 ≤ x ∧ x < 256) (hs : InR [s0, s1, s2, s3, s4, s5, s6, s7]) :
    ∃ r0 r1 r2 r3 r4 r5 r6 r7, stowageref03_step.f k s0 s1 s2 s3 s4 s5 s6 s7 b = some (r0, r1, r2, r3, r4, r5, r6, r7) ∧ blockF [s0, s1, s2, s3, s4, s5, s6, s7] b = [r0, r1, r2, r3, r4, r5, r6, r7] ∧ InR [r0, r1, r2, r3, r4, r5, r6, r7] := by
  have h0 := step_l0 b hb hr s0 s1 s2 s3 s4 s5 s6 s7 64 0 k (by omega) (by omega)
  obtain ⟨u0, u1, u2, u3, u4, u5, u6, u7, hu, hl⟩ := step_l1 [s0, s1, s2, s3, s4, s5, s6, s7] (sched b 64) (sched_len b 64) s0 s1 s2 s3 s4 s5 s6 s7 64 0 (k - 64 - 1) s0 s1 s2 s3 s4 s5 s6 s7 (by omega) rfl hs (by omega)
  refine ⟨_, _, _, _, _, _, _, _, (h0.trans hl), blockF_of hu, ?_⟩
  intro x hx
  simp only [List.mem_cons, List.not_mem_nil, or_false] at hx
  rcases hx with rfl | rfl | rfl | rfl | rfl | rfl | rfl | rfl <;> omega
end Go.Proofs.YtpgbkeaaklglkaaGreatDoor.Q