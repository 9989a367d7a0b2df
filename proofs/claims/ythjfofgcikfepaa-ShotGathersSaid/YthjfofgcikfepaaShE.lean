/- The document's answer: what a text says. -/
import Derived.Test.YthjfofgcikfepaaShC
import Derived.Test.YthjfofgcikfepaaRb
namespace Go.Proofs.Ythjfofgcikfepaa.Q
open Go.Maps Go.WideShapes Go.WideMaps Go.RowKit Go.Proofs.YthjfofgcikfepaaW.PrintWords Go.Proofs.YthjfofgcikfepaaW.PrintLast Go.Proofs.YthjfofgcikfepaaW.PrintMore
set_option linter.unusedVariables false
set_option linter.unusedSimpArgs false
set_option maxHeartbeats 10000000
set_option maxRecDepth 100000
theorem ref_l0 (s : ByteArray) (hs : s.size ≤ 140737488351232) (p : Nat) (hp : p ≤ s.size) : ∀ (d i n : Nat), d + i = 10 → i ≤ 9 → n < 128 ^ i → ∀ k, 2 * d ≤ k →
    stowageref01_ReadNumber.l0 k s p n (128 ^ i : Nat) (p + i : Nat) = some (rnum s p d i n) := by
  intro d
  induction d with
  | zero => intro i n h1 h2; omega
  | succ d ih =>
    intro i n hd hi hn k hk
    obtain ⟨k, rfl⟩ : ∃ m, k = m + 2 := ⟨k - 2, by omega⟩
    simp only [stowageref01_ReadNumber.l0, rnum]
    by_cases h1 : (p + i) ≥ s.size
    · rw [if_pos (by omega), if_pos h1]
    · rw [if_neg (by omega), if_neg h1, if_pos (by omega), if_pos (by omega)]
      obtain ⟨hb0, hb1⟩ := bt_range s ((p + i : Nat) : Int)
      generalize bt s ((p + i : Nat) : Int) = b at *
      have hbw : IntKind.u64.wrap b = b := IntWalk.u64_in _ (by omega)
      have hw : wrap64 (((p + i : Nat) : Int) - p) = (i : Int) := by rw [IntWalk.wrap64_in _ (by omega)]; omega
      rw [hbw, hw]
      have key : ∀ c : Bool, (c = true ↔ ((i = 9 ∧ 1 < b) ∨ (0 < i ∧ b = 0))) → stowageref01_ReadNumber.j2 (k + 1) s p n (128 ^ i : Nat) (p + i : Nat) b c = some (if (i = 9 ∧ 1 < b) ∨ (0 < i ∧ b = 0) then (0, 0, 3) else if b < 128 then (((n + b.toNat % 128 * 128 ^ i : Nat) : Int), ((p + i + 1 : Nat) : Int), 0) else rnum s p d (i + 1) (n + b.toNat % 128 * 128 ^ i)) := by
        intro c hc
        simp only [stowageref01_ReadNumber.j2]
        by_cases hC : (i = 9 ∧ 1 < b) ∨ (0 < i ∧ b = 0)
        · rw [if_pos (hc.2 hC), if_pos hC]
        · rw [if_neg (fun h => hC (hc.1 h)), if_neg hC]
          obtain ⟨b, rfl⟩ := Int.eq_ofNat_of_zero_le hb0
          have hp := piece_lt i hi (b % 128) (by omega) (by omega)
          have e : IntKind.u64.wrap (Int.tmod (b : Int) 128 * ((128 ^ i : Nat) : Int)) = ((b % 128 * 128 ^ i : Nat) : Int) := by
            rw [Int.tmod_eq_emod_of_nonneg (by omega)]
            have : ((b : Int) % 128) * ((128 ^ i : Nat) : Int) = ((b % 128 * 128 ^ i : Nat) : Int) := by simp
            rw [this]
            exact wraps_u64 64 (by decide) _ (by omega) (by exact_mod_cast hp)
          have hlow := low_lt i n hi hn
          have e2 : IntKind.u64.wrap ((n : Int) + ((b % 128 * 128 ^ i : Nat) : Int)) = ((n + b % 128 * 128 ^ i : Nat) : Int) := by
            by_cases h9 : i = 9
            · subst h9
              rw [IntWalk.u64_in _ (by omega)]; omega
            · have hp8 : 128 ^ i ≤ 128 ^ 8 := Nat.pow_le_pow_right (by decide) (by omega)
              have : b % 128 * 128 ^ i ≤ 127 * 128 ^ 8 := Nat.mul_le_mul (by omega) hp8
              rw [IntWalk.u64_in _ (by omega)]; omega
          rw [e, e2, Int.toNat_natCast]
          have e3 : wrap64 (((p + i : Nat) : Int) + 1) = ((p + i + 1 : Nat) : Int) := by rw [IntWalk.wrap64_in _ (by omega)]; omega
          rw [e3]
          by_cases h128 : (b : Int) < 128
          · rw [if_pos h128, if_pos h128]
          · rw [if_neg h128, if_neg h128]
            have hi' : i ≤ 8 := by omega
            have hp8 : 128 ^ i ≤ 128 ^ 8 := Nat.pow_le_pow_right (by decide) (by omega)
            have e4 : IntKind.u64.wrap (((128 ^ i : Nat) : Int) * 128) = ((128 ^ (i + 1) : Nat) : Int) := by
              rw [IntWalk.u64_in _ (by omega), Nat.pow_succ]; omega
            rw [e4]
            refine ih (i + 1) _ (by omega) (by omega) ?_ k (by omega)
            have h2 : b % 128 * 128 ^ i ≤ 127 * 128 ^ i := Nat.mul_le_mul_right _ (by omega)
            rw [Nat.pow_succ]; omega
      by_cases h9 : i = 9
      · rw [if_pos (by omega)]
        by_cases hb : b > 1
        · rw [if_pos hb]; exact key true (by simp; omega)
        · rw [if_neg hb, if_pos (by omega)]; exact key _ (by rw [beq_iff_eq]; omega)
      · rw [if_neg (by omega)]
        by_cases h0 : i > 0
        · rw [if_pos (by omega)]; exact key _ (by rw [beq_iff_eq]; omega)
        · rw [if_neg (by omega)]; exact key _ (by simp; omega)

theorem ref_read (s : ByteArray) (hs : s.size ≤ 140737488351232) (a : Int) (k : Nat) (hk : 21 ≤ k) : stowageref01_ReadNumber.f k s a = some (readNum s a) := by
  obtain ⟨k, rfl⟩ : ∃ m, k = m + 1 := ⟨k - 1, by omega⟩
  unfold stowageref01_ReadNumber.f readNum
  by_cases h : a < 0
  · rw [if_pos h, if_pos (.inl h)]; simp [stowageref01_ReadNumber.j0]
  · rw [if_neg h]
    by_cases h2 : (s.size : Int) < a
    · rw [if_pos (.inr h2)]; simp [stowageref01_ReadNumber.j0, h2]
    · rw [if_neg (by omega)]
      simp only [stowageref01_ReadNumber.j0]
      rw [if_neg (by simp; omega)]
      obtain ⟨p, rfl⟩ := Int.eq_ofNat_of_zero_le (show 0 ≤ a by omega)
      exact ref_l0 s hs p (by omega) 10 0 0 rfl (by omega) (by decide) k (by omega)

theorem ref_readText (s : ByteArray) (hs : s.size ≤ 140737488351232) (a : Int) (k : Nat) (hk : 21 ≤ k) : stowageref01_ReadText.f k s a = some (readText s a) := by
  unfold stowageref01_ReadText.f
  rw [ref_read s hs a k hk]
  simp only [Option.bind_some]
  unfold readText
  have H := @readNum_ok s a
  generalize readNum s a = r at *
  obtain ⟨n, q, e⟩ := r
  simp only at *
  by_cases he : e = 0
  · rw [if_pos he, if_pos he]
    obtain ⟨h1, h2, h3, h4, h5⟩ := H he
    have w1 : IntKind.u64.wrap (s.size : Int) = (s.size : Int) := by rw [IntWalk.u64_in _ (by omega)]
    have w0 : wrap64 ((s.size : Int) - q) = (s.size : Int) - q := by rw [IntWalk.wrap64_in _ (by omega)]
    rw [w1, w0]
    by_cases hn : n > (s.size : Int) - q
    · rw [if_pos hn]
      by_cases hn2 : n > (s.size : Int)
      · rw [if_pos hn2]
      · rw [if_neg hn2, IntWalk.wrap64_in _ (by omega), if_pos hn]
    · rw [if_neg hn, if_neg (by omega)]
      have w2 : wrap64 n = n := IntWalk.wrap64_in _ (by omega)
      have w3 : wrap64 (q + n) = q + n := IntWalk.wrap64_in _ (by omega)
      rw [w2, w3, if_neg hn, if_pos (by omega), if_pos (by omega), if_pos (by omega)]
  · rw [if_neg he, if_neg he]
theorem ref_pNum (s : ByteArray) (hs : s.size ≤ 140737488351232) (a e m : Int) : Ev (fun k => stowageref01_Reader_Number.f k s a e m) (s, (pNum s a e m).2.1, (pNum s a e m).2.2, (pNum s a e m).1) := by
  refine ⟨30, fun k hk => ?_⟩
  show stowageref01_Reader_Number.f k s a e m = _
  unfold stowageref01_Reader_Number.f pNum
  by_cases he : e = 0
  · rw [if_pos he, if_pos he, ref_read s hs a k (by omega)]
    simp only [Option.bind_some]
    by_cases h0 : (readNum s a).2.2 = 0
    · rw [if_pos h0, if_pos h0]
      by_cases hm : (readNum s a).1 > m
      · rw [if_pos hm, if_pos hm]
      · rw [if_neg hm, if_neg hm, he]
    · rw [if_neg h0, if_neg h0]
  · rw [if_neg he, if_neg he]
theorem ref_pInt (s : ByteArray) (hs : s.size ≤ 140737488351232) (a e m : Int) (h0 : 0 ≤ m) (h1 : m ≤ 9000000000000000000) : Ev (fun k => stowageref01_Reader_Int.f k s a e m) (s, (pNum s a e m).2.1, (pNum s a e m).2.2, (pNum s a e m).1) := by
  have hr := pNum_range s a e m h0
  refine Ev.congr (f := fun k => (stowageref01_Reader_Number.f k s a e m).bind fun bt478 => some (bt478.1, bt478.2.1, bt478.2.2.1, wrap64 bt478.2.2.2)) (fun k => ?_) (Ev.bind (ref_pNum s hs a e m) (Ev.congr (fun k => ?_) (Ev.now _)))
  · unfold stowageref01_Reader_Int.f
    rw [if_pos (by omega), IntWalk.u64_in m (by omega)]
  · simp only; rw [IntWalk.wrap64_in _ (by omega)]
theorem ref_pText (s : ByteArray) (hs : s.size ≤ 140737488351232) (a e m : Int) : Ev (fun k => stowageref01_Reader_Text.f k s a e m) (s, (pText s a e m).2.1, (pText s a e m).2.2, (pText s a e m).1) := by
  refine ⟨30, fun k hk => ?_⟩
  show stowageref01_Reader_Text.f k s a e m = _
  unfold stowageref01_Reader_Text.f pText
  by_cases he : e = 0
  · rw [if_pos he, if_pos he, ref_readText s hs a k (by omega)]
    simp only [Option.bind_some]
    by_cases h0 : (readText s a).2.2 = 0
    · rw [if_pos h0, if_pos h0]
      by_cases hm : ((readText s a).1.size : Int) > m
      · rw [if_pos hm, if_pos hm]
      · rw [if_neg hm, if_neg hm, he]
    · rw [if_neg h0, if_neg h0]
  · rw [if_neg he, if_neg he]
theorem rend_is (s : ByteArray) (a e : Int) : ∃ q r, stowageref01_Reader_End.f s a e = some (q, r, pEnd s a e) := by
  unfold stowageref01_Reader_End.f pEnd
  by_cases he : e = 0
  · rw [if_pos he, if_pos he]
    by_cases ha : a < (s.size : Int)
    · rw [if_pos ha, if_pos ha]; exact ⟨_, _, rfl⟩
    · rw [if_neg ha, if_neg ha]; exact ⟨_, _, rfl⟩
  · rw [if_neg he, if_neg he]; exact ⟨_, _, rfl⟩
theorem rfin_ev (s : ByteArray) (hs : s.size ≤ 140737488351232) (x y : Int) (ms : List Int) (a e : Int) :
    Ev (fun k => (stowageref01_Reader_Text.f k s a e 131072).bind fun bt254 => ((stowageref01_Reader_End.f bt254.1 bt254.2.1 bt254.2.2.1).bind fun bt259 => (if bt259.2.2 = 0 then ((stowageref07_Check.f k x y ms bt254.2.2.2).bind fun t262 => (if t262 = 0 then (some (x, y, ms, bt254.2.2.2, 0)) else (some (0, 0, ([] : List Int), (⟨#[]⟩ : ByteArray), 3)))) else (some (0, 0, ([] : List Int), (⟨#[]⟩ : ByteArray), 3))))) (finS s x y ms a e) := by
  refine Ev.bind (ref_pText s hs a e 131072) ?_
  obtain ⟨q, r, hq⟩ := rend_is s (pText s a e 131072).2.1 (pText s a e 131072).2.2
  unfold finS
  refine Ev.congr (f := fun k => if pEnd s (pText s a e 131072).2.1 (pText s a e 131072).2.2 = 0 then ((stowageref07_Check.f k x y ms (pText s a e 131072).1).bind fun t203 => (if t203 = 0 then (some (x, y, ms, (pText s a e 131072).1, 0)) else (some (0, 0, ([] : List Int), (⟨#[]⟩ : ByteArray), 3)))) else (some (0, 0, ([] : List Int), (⟨#[]⟩ : ByteArray), 3))) (fun k => by rw [hq]; rfl) ?_
  by_cases h0 : pEnd s (pText s a e 131072).2.1 (pText s a e 131072).2.2 = 0
  · rw [if_pos h0]
    refine Ev.congr (fun k => if_pos h0) (Ev.bind (rchk_ev _ _ _ _) ?_)
    by_cases h1 : chkS x y ms (pText s a e 131072).1 = 0
    · simp only [if_pos h1]; exact Ev.now _
    · simp only [if_neg h1]; exact Ev.now _
  · rw [if_neg h0]
    exact Ev.congr (fun k => if_neg h0) (Ev.now _)
theorem rdec_go (s : ByteArray) (hs : s.size ≤ 140737488351232) (x y : Int) (cnt : Nat) (hc : cnt ≤ 7) : ∀ (d i : Nat) (a e : Int) (acc : List Int), i + d = cnt → acc.length = i →
    Ev (fun k => stowageref07_Decode.l0 k (cnt : Int) (i : Int) s a e x y acc ⟨#[]⟩) (finS s x y (acc ++ (dMem s 6 d a e).1) (dMem s 6 d a e).2.1 (dMem s 6 d a e).2.2)
  | 0, i, a, e, acc, h, hl => by
    rw [dMem, List.append_nil]
    exact Ev.step (fun k => by rw [stowageref07_Decode.l0, if_neg (by omega)]) (rfin_ev s hs x y acc a e)
  | d + 1, i, a, e, acc, h, hl => by
    have hG := rdec_go s hs x y cnt hc d (i + 1) (pNum s a e 6).2.1 (pNum s a e 6).2.2 (acc ++ [(pNum s a e 6).1]) (by omega) (by rw [List.length_append, hl]; rfl)
    rw [List.append_assoc] at hG
    rw [dMem]
    have r1 : ∀ k, stowageref07_Decode.l0 (k + 1) (cnt : Int) (i : Int) s a e x y acc ⟨#[]⟩ = _ := fun k => by rw [stowageref07_Decode.l0, if_pos (by omega), w1 i (by omega)]
    exact Ev.step r1 (Ev.bind (ref_pInt s hs a e 6 (by omega) (by omega)) (Ev.ifp (by omega) hG))
theorem rdec_ev6 (s : ByteArray) (hs : s.size ≤ 140737488351232) : Ev (fun k => stowageref07_Decode.f k s) (decS 6 s) := by
  unfold stowageref07_Decode.f decS
  simp only
  have hr := pNum_range s (pNum s (pNum s 0 0 1099511627776).2.1 (pNum s 0 0 1099511627776).2.2 1099511627776).2.1 (pNum s (pNum s 0 0 1099511627776).2.1 (pNum s 0 0 1099511627776).2.2 1099511627776).2.2 7 (by omega)
  refine Ev.bind (ref_pInt s hs 0 0 1099511627776 (by omega) (by omega)) (Ev.bind (ref_pInt s hs _ _ 1099511627776 (by omega) (by omega)) (Ev.bind (ref_pInt s hs _ _ 7 (by omega) (by omega)) ?_))
  generalize pNum s (pNum s (pNum s 0 0 1099511627776).2.1 (pNum s 0 0 1099511627776).2.2 1099511627776).2.1 (pNum s (pNum s 0 0 1099511627776).2.1 (pNum s 0 0 1099511627776).2.2 1099511627776).2.2 7 = c at hr
  obtain ⟨n, hn⟩ := Int.eq_ofNat_of_zero_le hr.1
  have e : c.1.toNat = n := by rw [hn]; rfl
  have hG := rdec_go s hs (pNum s 0 0 1099511627776).1 (pNum s (pNum s 0 0 1099511627776).2.1 (pNum s 0 0 1099511627776).2.2 1099511627776).1 n (by omega) n 0 c.2.1 c.2.2 [] (by omega) rfl
  rw [e, hn]
  exact hG
theorem pNum_six (s : ByteArray) (a e : Int) : ((pNum s a e 7).1 ≤ 6 → pNum s a e 6 = pNum s a e 7) ∧ (6 < (pNum s a e 7).1 → (pNum s a e 6).2.2 ≠ 0) := by
  unfold pNum
  simp only
  by_cases he : e = 0
  · rw [if_pos he, if_pos he]
    by_cases h0 : (readNum s a).2.2 = 0
    · rw [if_pos h0, if_pos h0]
      by_cases h7 : (readNum s a).1 > 7
      · rw [if_pos h7, if_pos (show (readNum s a).1 > 6 by omega)]; exact ⟨fun _ => rfl, fun h => absurd h (by show ¬ (6 : Int) < 0; decide)⟩
      · rw [if_neg h7]
        by_cases h6 : (readNum s a).1 > 6
        · rw [if_pos h6]; exact ⟨fun h => absurd h (by show ¬ (readNum s a).1 ≤ 6; omega), fun _ => by show (2 : Int) ≠ 0; decide⟩
        · rw [if_neg h6]; exact ⟨fun _ => rfl, fun h => absurd h (by show ¬ 6 < (readNum s a).1; omega)⟩
    · rw [if_neg h0, if_neg h0]; exact ⟨fun _ => rfl, fun h => absurd h (by show ¬ (6 : Int) < 0; decide)⟩
  · rw [if_neg he, if_neg he]; exact ⟨fun _ => rfl, fun h => absurd h (by show ¬ (6 : Int) < 0; decide)⟩
theorem dMem_six (s : ByteArray) : ∀ (n : Nat) (a e : Int), ((∀ m ∈ (dMem s 7 n a e).1, m ≤ 6) → dMem s 6 n a e = dMem s 7 n a e) ∧ (¬ (∀ m ∈ (dMem s 7 n a e).1, m ≤ 6) → (dMem s 6 n a e).2.2 ≠ 0)
  | 0, a, e => ⟨fun _ => rfl, fun h => absurd (fun m hm => by rw [dMem] at hm; cases hm) h⟩
  | n + 1, a, e => by
    have h6 := pNum_six s a e
    by_cases hp : (pNum s a e 7).1 ≤ 6
    · have e6 := h6.1 hp
      have ih := dMem_six s n (pNum s a e 7).2.1 (pNum s a e 7).2.2
      rw [dMem, dMem, e6]
      refine ⟨fun h => ?_, fun h => ?_⟩
      · rw [ih.1 (fun m hm => h m (List.mem_cons_of_mem _ hm))]
      · refine ih.2 (fun g => h (fun m hm => ?_))
        rcases List.mem_cons.1 hm with rfl | hm
        · exact hp
        · exact g m hm
    · refine ⟨fun h => absurd (h _ (by rw [dMem]; exact List.mem_cons_self)) hp, fun _ g => ?_⟩
      rw [dMem] at g
      exact h6.2 (by omega) (dMem_e0 n _ _ g)
theorem finS_bad {s : ByteArray} {x y : Int} {ms : List Int} {a e : Int} (h : e ≠ 0) : finS s x y ms a e = noS := by
  unfold finS
  rw [if_neg]
  intro g
  have h1 : (pText s a e 131072).2.2 = 0 := by
    unfold pEnd at g
    split at g
    · assumption
    · exact g
  exact h (pText_zero h1).1
theorem decS_six (s : ByteArray) : decS 6 s = decS 7 s := by
  unfold decS
  simp only
  generalize pNum s (pNum s (pNum s 0 0 1099511627776).2.1 (pNum s 0 0 1099511627776).2.2 1099511627776).2.1 (pNum s (pNum s 0 0 1099511627776).2.1 (pNum s 0 0 1099511627776).2.2 1099511627776).2.2 7 = c
  have h := dMem_six s c.1.toNat c.2.1 c.2.2
  by_cases hm : ∀ m ∈ (dMem s 7 c.1.toNat c.2.1 c.2.2).1, m ≤ 6
  · rw [h.1 hm]
  · rw [finS_bad (h.2 hm)]
    unfold finS
    split
    · rw [if_neg]
      intro g
      exact hm (fun m hmm => by have := (fineS g).mem m hmm; omega)
    · rfl
theorem rdec_ev (s : ByteArray) (hs : s.size ≤ 140737488351232) : Ev (fun k => stowageref07_Decode.f k s) (decS 7 s) := decS_six s ▸ rdec_ev6 s hs
end Go.Proofs.Ythjfofgcikfepaa.Q
