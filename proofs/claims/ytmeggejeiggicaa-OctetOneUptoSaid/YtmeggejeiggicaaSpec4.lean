/- What is read is what is put: numbers, texts and lists of package octet, for bytes that hold no more than 2000000 letters. -/
import Derived.Test.YtmeggejeiggicaaSpec2
import Derived.Test.YtmeggejeiggicaaOne
namespace Go.Proofs.Ytmeggejeiggicaa.Pure
open Go.RowKit Go.Proofs.Ytmeggejeiggicaa.Q Go.Proofs.YtmeggejeiggicaaW.PrintWords Go.Proofs.YtmeggejeiggicaaW.PrintLast Go.Proofs.YtmeggejeiggicaaW.PrintMore
set_option linter.unusedVariables false
/-- a number that is read is the one that its bytes say -/
theorem rnum_form (s : ByteArray) (p : Nat) : ∀ (d i n : Nat), d + i = 10 → n < 128 ^ i → (rnum s p d i n).2.2 = 0 →
    ∃ m : Nat, m < 128 ^ d ∧ (0 < i → 0 < m) ∧ (rnum s p d i n).1 = ((n + m * 128 ^ i : Nat) : Int) ∧ (rnum s p d i n).2.1 = ((p + i + (encN d m).length : Nat) : Int) ∧
      (nb s).drop (p + i) = (encN d m).map Int.toNat ++ (nb s).drop (p + i + (encN d m).length) := by
  intro d
  induction d with
  | zero => intro i n _ _ h; simp [rnum] at h
  | succ d ih =>
    intro i n hd hn
    simp only [rnum]
    by_cases h1 : (p + i) ≥ s.size
    · rw [if_pos h1]; intro h; simp at h
    · rw [if_neg h1]
      obtain ⟨hb0, hb1⟩ := bt_range s ((p + i : Nat) : Int)
      have hnb := nb_bt s (p + i) (by omega)
      generalize bt s ((p + i : Nat) : Int) = b at *
      by_cases hC : (i = 9 ∧ 1 < b) ∨ (0 < i ∧ b = 0)
      · rw [if_pos hC]; intro h; simp at h
      · rw [if_neg hC]
        obtain ⟨b, rfl⟩ := Int.eq_ofNat_of_zero_le hb0
        rw [Int.toNat_natCast] at *
        by_cases h128 : (b : Int) < 128
        · rw [if_pos h128]
          intro _
          have hb : b < 128 := by omega
          have e : encN (d + 1) b = [(b : Int)] := by simp only [encN]; rw [if_pos hb]
          have hp : 128 ^ 1 ≤ 128 ^ (d + 1) := Nat.pow_le_pow_right (by decide) (by omega)
          refine ⟨b, by omega, by omega, ?_, ?_, ?_⟩
          · show ((n + b % 128 * 128 ^ i : Nat) : Int) = _
            rw [Nat.mod_eq_of_lt hb]
          · rw [e]; rfl
          · rw [e, hnb]; rfl
        · rw [if_neg h128]
          intro h
          have h2 : b % 128 * 128 ^ i ≤ 127 * 128 ^ i := Nat.mul_le_mul_right _ (by omega)
          obtain ⟨m, g1, g2, g3, g4, g5⟩ := ih (i + 1) _ (by omega) (by rw [Nat.pow_succ]; omega) h
          have hm := g2 (by omega)
          have e : encN (d + 1) (b % 128 + 128 * m) = (b : Int) :: encN d m := by
            simp only [encN]
            rw [if_neg (by omega), show (b % 128 + 128 * m) / 128 = m by omega, show (b % 128 + 128 * m) % 128 + 128 = b by omega]
          refine ⟨b % 128 + 128 * m, by rw [Nat.pow_succ]; omega, by omega, ?_, ?_, ?_⟩
          · rw [g3, Nat.pow_succ, Nat.add_mul, Nat.mul_comm (128 ^ i) 128, ← Nat.mul_assoc, Nat.mul_comm m 128, ← Nat.add_assoc]
          · rw [g4, e, List.length_cons, show p + (i + 1) + (encN d m).length = p + i + ((encN d m).length + 1) by omega]
          · rw [e, List.length_cons, hnb, show p + i + ((encN d m).length + 1) = p + (i + 1) + (encN d m).length by omega]
            show _ = b :: ((encN d m).map Int.toNat ++ _)
            rw [← g5, show p + i + 1 = p + (i + 1) by omega]
theorem readNum_form {s : ByteArray} {p : Nat} (h : (readNum s p).2.2 = 0) : ∃ m : Nat, m < 2 ^ 64 ∧ (readNum s p).1 = (m : Int) ∧ (readNum s p).2.1 = ((p + (numS m).size : Nat) : Int) ∧ (nb s).drop p = nb (numS m) ++ (nb s).drop (p + (numS m).size) := by
  obtain ⟨h1, h2, h3, h4, h5⟩ := readNum_ok h
  unfold readNum at h h2 h3 h4 h5 ⊢
  have hC : ¬((p : Int) < 0 ∨ (s.size : Int) < p) := by
    intro hC; rw [if_pos hC] at h; simp at h
  rw [if_neg hC] at h h2 h3 h4 h5 ⊢
  rw [Int.toNat_natCast] at *
  obtain ⟨m, g1, g2, g3, g4, g5⟩ := rnum_form s p 10 0 0 rfl (by decide) h
  rw [show 0 + m * 128 ^ 0 = m by omega] at g3
  rw [Nat.add_zero] at g4 g5
  refine ⟨m, by omega, g3, ?_, ?_⟩
  · rw [g4, numS_len]
  · rw [nb_numS, numS_len]; exact g5
theorem readText_form {s : ByteArray} {p : Nat} (h : (readText s p).2.2 = 0) : ∃ q : Nat, (readText s p).2.1 = (q : Int) ∧ q = p + (numS (readText s p).1.size).size + (readText s p).1.size ∧ q ≤ s.size ∧
    (nb s).drop p = nb (numS (readText s p).1.size ++ (readText s p).1) ++ (nb s).drop q := by
  unfold readText at h ⊢
  have H := @readNum_form s p
  have H2 := @readNum_ok s p
  generalize readNum s p = r at *
  obtain ⟨n, q, e⟩ := r
  simp only at *
  by_cases he : e = 0
  · rw [if_pos he] at h ⊢
    obtain ⟨m, g1, g2, g3, g4⟩ := H he
    obtain ⟨k1, k2, k3, k4, k5⟩ := H2 he
    subst g2 g3
    by_cases hn : (m : Int) > (s.size : Int) - ((p + (numS m).size : Nat) : Int)
    · rw [if_pos hn] at h; simp at h
    · rw [if_neg hn]
      simp only
      have ht : (((p + (numS m).size : Nat) : Int) + (m : Int)).toNat = p + (numS m).size + m := by omega
      rw [ht, Int.toNat_natCast]
      have hz : (s.extract (p + (numS m).size) (p + (numS m).size + m)).size = m := by rw [ByteArray.size_extract]; omega
      rw [hz]
      refine ⟨p + (numS m).size + m, by omega, rfl, by omega, ?_⟩
      rw [nb_app, nb_extract, show p + (numS m).size + m - (p + (numS m).size) = m by omega, List.append_assoc, ← List.drop_drop (i := m), List.take_append_drop]
      exact g4
  · rw [if_neg he] at h
    exact absurd h he
theorem oct_one_l (s : ByteArray) (hs : s.size ≤ 2000000) (n : Nat) : ∀ (d : Nat) (p : Nat) (acc : List ByteArray), s.size - p < d → p ≤ s.size → acc.length ≤ n → acc.length ≤ p → ∃ r : List ByteArray × Int × Int,
    (∀ k, d + 40 < k → octet_ReadList.l0 k s n p 0 acc = some r) ∧ 0 ≤ r.2.1 ∧ r.2.1 ≤ s.size ∧
    (r.2.2 = 0 → ∃ (rest : List ByteArray) (q : Nat), r.1 = acc ++ rest ∧ r.1.length = n ∧ r.2.1 = (q : Int) ∧ p ≤ q ∧ q ≤ s.size ∧ total rest ≤ q - p ∧ (nb s).drop p = (rest.flatMap fun x => nb (numS x.size ++ x)) ++ (nb s).drop q) := by
  intro d
  induction d with
  | zero => intro p acc h; omega
  | succ d ih =>
    intro p acc hd hp hn hl
    have e0 : IntKind.u64.wrap (acc.length : Int) = (acc.length : Int) := IntWalk.u64_in _ (by omega)
    by_cases hlt : (acc.length : Int) < n
    · by_cases h0 : (readText s p).2.2 = 0
      · obtain ⟨q, f1, f2, f3, f4⟩ := readText_form h0
        have hns : 0 < (numS (readText s p).1.size).size := by rw [numS_len]; simp only [encN]; split <;> simp
        obtain ⟨r, hr, r1, r2, r3⟩ := ih q (acc ++ [(readText s p).1]) (by omega) (by omega) (by simp; omega) (by simp; omega)
        refine ⟨r, fun k hk => ?_, r1, r2, fun he => ?_⟩
        · obtain ⟨k, rfl⟩ : ∃ m, k = m + 1 := ⟨k - 1, by omega⟩
          simp only [octet_ReadList.l0]
          rw [if_pos trivial, e0, if_pos hlt, oct_readText s (by omega) _ k (by omega)]
          simp only [Option.bind_some]
          rw [if_pos (by omega), h0, f1]
          exact hr k (by omega)
        · obtain ⟨rest, q', g1, g2, g3, g4, g5, g6, g7⟩ := r3 he
          refine ⟨(readText s p).1 :: rest, q', by rw [g1]; simp, g2, g3, by omega, g5, ?_, ?_⟩
          · have e2 : total ((readText s p).1 :: rest) = (readText s p).1.size + 1 + total rest := by simp [total]
            omega
          · rw [f4, g7, List.flatMap_cons, List.append_assoc]
      · refine ⟨([], 0, (readText s p).2.2), fun k hk => ?_, by simp, by simp, fun he => absurd he h0⟩
        obtain ⟨k, rfl⟩ : ∃ m, k = m + 2 := ⟨k - 2, by omega⟩
        simp only [octet_ReadList.l0]
        rw [if_pos trivial, e0, if_pos hlt, oct_readText s (by omega) _ (k + 1) (by omega)]
        simp only [Option.bind_some]
        rw [if_pos (by omega), if_neg h0]
    · refine ⟨(acc, (p : Int), 0), fun k hk => ?_, by simp, by simp; omega, fun _ => ⟨[], p, by simp, by show acc.length = n; omega, rfl, Nat.le_refl _, hp, by simp [total], by simp⟩⟩
      obtain ⟨k, rfl⟩ : ∃ m, k = m + 1 := ⟨k - 1, by omega⟩
      simp only [octet_ReadList.l0]
      rw [if_pos trivial, e0, if_neg hlt]
theorem nb_pre {s t : ByteArray} {rest : List Nat} (h : nb s = nb t ++ rest) : t = s.extract 0 t.size := by
  apply nb_inj
  rw [nb_extract, h, List.drop_zero, Nat.sub_zero, List.take_append_of_le_length (by rw [nb_len]; exact Nat.le_refl _), List.take_of_length_le (by rw [nb_len]; exact Nat.le_refl _)]
theorem oct_one (s : ByteArray) (hs : s.size ≤ 2000000) : ∃ r : List ByteArray × Int × Int, (∀ k, 3000000 < k → octet_ReadList.f k s 0 = some r) ∧ 0 ≤ r.2.1 ∧ r.2.1 ≤ s.size ∧
    (r.2.2 = 0 → total r.1 ≤ s.size ∧ ∃ q : Nat, r.2.1 = (q : Int) ∧ listS r.1 = s.extract 0 q) := by
  by_cases h0 : (readNum s (0 : Nat)).2.2 = 0
  · obtain ⟨h1, h2, h3, h4, h5⟩ := readNum_ok h0
    obtain ⟨m, g1, g2, g3, g4⟩ := readNum_form h0
    rw [Nat.zero_add] at g3 g4
    obtain ⟨r, hr, r1, r2, r3⟩ := oct_one_l s hs m (s.size + 1) (numS m).size [] (by omega) (by omega) (by simp) (by simp)
    refine ⟨r, fun k hk => ?_, r1, r2, fun he => ?_⟩
    · unfold octet_ReadList.f
      rw [show (0 : Int) = ((0 : Nat) : Int) from rfl, oct_read s (by omega) _ k (by omega)]
      simp only [Option.bind_some]
      rw [g2, g3, h0]
      exact hr k (by omega)
    · obtain ⟨rest, q, f1, f2, f3, f4, f5, f6, f7⟩ := r3 he
      rw [List.nil_append] at f1
      subst f1
      refine ⟨by omega, q, f3, ?_⟩
      rw [List.drop_zero] at g4
      have hall : nb s = nb (listS r.1) ++ (nb s).drop q := by
        rw [nb_listS, f2, List.append_assoc, ← f7]; exact g4
      have hl := congrArg List.length hall
      rw [List.length_append, List.length_drop, nb_len, nb_len] at hl
      have hq : (listS r.1).size = q := by omega
      have := nb_pre hall
      rw [hq] at this
      exact this
  · refine ⟨([], 0, (readNum s (0 : Nat)).2.2), fun k hk => ?_, by simp, by simp, fun he => absurd he h0⟩
    unfold octet_ReadList.f
    rw [show (0 : Int) = ((0 : Nat) : Int) from rfl, oct_read s (by omega) _ k (by omega)]
    simp only [Option.bind_some]
    obtain ⟨k, rfl⟩ : ∃ m, k = m + 1 := ⟨k - 1, by omega⟩
    simp only [octet_ReadList.l0]
    rw [if_neg h0]
    rfl
theorem one_j (s : ByteArray) (n i e : Int) (t : ByteArray) (j f : Int) (l : List ByteArray) (c g : Int) (k : Nat) (hk : 2900000 < k)
    (hi : 0 ≤ i ∧ i ≤ s.size) (hj : 0 ≤ j ∧ j ≤ s.size) (hc : 0 ≤ c ∧ c ≤ s.size)
    (h1 : e = 0 → octet_Number.f k n = some (s.extract 0 i.toNat)) (h2 : f = 0 → octet_Text.f k t = some (s.extract 0 j.toNat)) (h3 : g = 0 → octet_List.f k l = some (s.extract 0 c.toNat)) :
    stowagelaw01_OctetOne.j0 (k + 1) s n i e t j f l c g false = some true := by
  have ha := awake_true k (by omega)
  simp only [stowagelaw01_OctetOne.j0]
  rw [if_neg (by simp), ha, Option.bind_some, if_pos rfl]
  have q1 : (if g = 0 then ((octet_List.f k l).bind fun t150 => (if 0 ≤ c then (if c ≤ (s.size : Int) then (some (t150.toList == (s.extract 0 (c : Int).toNat).toList)) else (none)) else (none))) else (some true)) = some true := by
    by_cases hg : g = 0
    · rw [if_pos hg, h3 hg, Option.bind_some, if_pos hc.1, if_pos hc.2]; simp
    · rw [if_neg hg]
  have q2 : (if f = 0 then ((octet_Text.f k t).bind fun t149 => (if 0 ≤ j then (if j ≤ (s.size : Int) then (if t149.toList = (s.extract 0 (j : Int).toNat).toList then (if g = 0 then ((octet_List.f k l).bind fun t150 => (if 0 ≤ c then (if c ≤ (s.size : Int) then (some (t150.toList == (s.extract 0 (c : Int).toNat).toList)) else (none)) else (none))) else (some true)) else (some false)) else (none)) else (none))) else (if g = 0 then ((octet_List.f k l).bind fun t151 => (if 0 ≤ c then (if c ≤ (s.size : Int) then (some (t151.toList == (s.extract 0 (c : Int).toNat).toList)) else (none)) else (none))) else (some true))) = some true := by
    by_cases hf : f = 0
    · rw [if_pos hf, h2 hf, Option.bind_some, if_pos hj.1, if_pos hj.2, if_pos rfl]; exact q1
    · rw [if_neg hf]; exact q1
  by_cases he : e = 0
  · rw [if_pos he, h1 he, Option.bind_some, if_pos hi.1, if_pos hi.2, if_pos rfl]; exact q2
  · rw [if_neg he]; exact q2
theorem readNum_in (s : ByteArray) : 0 ≤ (readNum s (0 : Nat)).2.1 ∧ (readNum s (0 : Nat)).2.1 ≤ s.size := by
  by_cases h : (readNum s (0 : Nat)).2.2 = 0
  · obtain ⟨h1, h2, h3, h4, h5⟩ := readNum_ok h
    exact ⟨by omega, h3⟩
  · have hz : ∀ (d i n : Nat), (rnum s 0 d i n).2.2 ≠ 0 → (rnum s 0 d i n).2.1 = 0 := by
      intro d
      induction d with
      | zero => intro i n _; rfl
      | succ d ih =>
        intro i n
        simp only [rnum]
        split
        · intro _; rfl
        · split
          · intro _; rfl
          · split
            · intro hh; exact absurd rfl hh
            · exact ih _ _
    unfold readNum at h ⊢
    rw [if_neg (by omega)] at h ⊢
    rw [Int.toNat_natCast] at *
    rw [hz _ _ _ h]; omega
theorem readText_in (s : ByteArray) : 0 ≤ (readText s (0 : Nat)).2.1 ∧ (readText s (0 : Nat)).2.1 ≤ s.size := by
  by_cases h : (readText s (0 : Nat)).2.2 = 0
  · obtain ⟨h1, h2, h3⟩ := readText_ok h
    exact ⟨by omega, h3⟩
  · unfold readText at h ⊢
    generalize readNum s (0 : Nat) = r at *
    obtain ⟨n, q, e⟩ := r
    simp only at *
    split
    · rename_i he
      rw [if_pos he] at h
      split
      · simp
      · rename_i hn; rw [if_neg hn] at h; exact absurd rfl h
    · simp
theorem OctetOne (s : ByteArray) (hs : s.size ≤ 2000000) (k : Nat) (hk : 3000000 < k) : stowagelaw01_OctetOne.f k s = some true := by
  obtain ⟨r, hr, r1, r2, r3⟩ := oct_one s hs
  have a1 := readNum_in s
  have a2 := readText_in s
  obtain ⟨k, rfl⟩ : ∃ m, k = m + 1 := ⟨k - 1, by omega⟩
  unfold stowagelaw01_OctetOne.f
  rw [hr _ hk, show (0 : Int) = ((0 : Nat) : Int) from rfl, oct_read s (by omega) _ (k + 1) (by omega), oct_readText s (by omega) _ (k + 1) (by omega)]
  simp only [Option.bind_some]
  rw [if_neg (by omega), if_neg (by omega), if_neg (by omega), if_neg (by omega), if_neg (by omega), show decide (r.2.1 > (s.size : Int)) = false from decide_eq_false (by omega)]
  refine one_j s _ _ _ _ _ _ _ _ _ k (by omega) a1 a2 ⟨r1, r2⟩ ?_ ?_ ?_
  · intro h
    obtain ⟨m, g1, g2, g3, g4⟩ := readNum_form h
    rw [Nat.zero_add] at g3 g4
    rw [List.drop_zero] at g4
    rw [g2, g3, oct_num m g1 k (by omega), Int.toNat_natCast, ← nb_pre g4]
  · intro h
    obtain ⟨q, f1, f2, f3, f4⟩ := readText_form h
    rw [List.drop_zero] at f4
    have hp := nb_pre f4
    rw [ByteArray.size_append, show (numS (readText s (0 : Nat)).1.size).size + (readText s (0 : Nat)).1.size = q by omega] at hp
    rw [f1, oct_text _ (by omega) k (by omega), Int.toNat_natCast, hp]
  · intro h
    obtain ⟨g1, q, g2, g3⟩ := r3 h
    have hlen := total_len r.1
    rw [g2, oct_list r.1 (by omega) k (by omega), Int.toNat_natCast, g3]

end Go.Proofs.Ytmeggejeiggicaa.Pure
