/- Files, and what they say. -/
import Derived.Outline
import Derived.StillTailTactics
import Derived.Deep.AppendLies
import Derived.Test.YthjfofgcikfepaaShR
import Derived.Test.YthjfofgcikfepaaShE
import Derived.Test.YthjfofgcikfepaaRl
namespace Go.Proofs.Ythjfofgcikfepaa.Q
open Go.Maps Go.WideShapes Go.WideMaps Go.RowKit Go.Proofs.YthjfofgcikfepaaW.PrintWords Go.Proofs.YthjfofgcikfepaaW.PrintLast Go.Proofs.YthjfofgcikfepaaW.PrintMore
set_option linter.unusedVariables false
set_option linter.unusedSimpArgs false
set_option maxHeartbeats 10000000
set_option maxRecDepth 100000
/-! files -/
theorem info121 : (Try.prog.info? 121).map (fun i => (i.zero, i.size, i.bytes)) = some (some (.agg #[(.string ⟨#[]⟩), (.string ⟨#[]⟩)]), 2, 32) := by kernel_rfl
def Named (l : Fs) : Prop := ∀ p ∈ l, nameS p.1 = true
def filesL (l : Fs) : List S121 := l.map (fun p => ⟨p.1, p.2⟩)
theorem nameS_size {s : ByteArray} (h : nameS s = true) : s.size ≤ 80 := by
  unfold nameS at h
  rw [Bool.and_eq_true, decide_eq_true_iff] at h
  exact h.2.2
structure Fine (st : DK) : Prop where
  up : st.down = false
  ris : Rises st.now
  named : Named st.now
  len : st.now.length ≤ 1000000
theorem getF_mem : ∀ {l : Fs}, Rises l → ∀ {p : ByteArray × ByteArray}, p ∈ l → getF l p.1 = p.2
  | [], _, _, hp => by cases hp
  | q :: l, hd, p, hp => by
    obtain ⟨g1, g2⟩ := List.pairwise_cons.1 hd
    unfold getF
    rw [List.find?_cons]
    rcases List.mem_cons.1 hp with rfl | hp
    · rw [sameN_iff.2 rfl]; rfl
    · have : sameN q.1 p.1 = false := by rw [← Bool.not_eq_true, sameN_iff]; exact ltN_ne (g1 p hp)
      rw [this]
      exact getF_mem g2 hp
theorem Fine.read {st : DK} (h : Fine st) {p : ByteArray × ByteArray} (hp : p ∈ st.now) : readE st p.1 = 0 ∧ readS st p.1 = p.2 := by
  have h0 : askE st.down [p.1] = 0 := by
    unfold askE
    rw [h.up, if_neg (by simp), if_pos (by rw [List.all_cons, h.named p hp]; rfl)]
  have h1 : hasF st.now p.1 = true := hasF_iff.2 ⟨p, hp, rfl⟩
  have h2 : readE st p.1 = 0 := by unfold readE; rw [if_pos h0, if_pos h1]
  refine ⟨h2, ?_⟩
  unfold readS
  rw [if_pos h2]
  exact getF_mem h.ris hp
theorem files_calls {w : World} {d : Nat} {ok : Nat → Prop} {st : DK} (h : IsD w d ok st) (hf : Fine st) :
    Calls Try.prog 38 #[.pointer (some ⟨d, 0, none⟩)] w fun e w' => ∃ v, e = .returned v ∧ k121.R 121 w' w.heap.size (fun k => w.heap.size ≤ k) v (filesL st.now) ∧ Below w.heap.size w w' := by
  have H := Aside0.mk h
  have HF := Aside0.mk hf
  clear h hf
  go_enter Try.func38, Try.ntmps38
  go_wp2_with (fail)
  refine (names_calls H.out HF.out.up HF.out.ris (by have := HF.out.len; omega)).mono ?_
  rintro e w1 ⟨v, rfl, hR, hb⟩
  obtain ⟨A, c, rfl, hlc, hC⟩ := Kd.R_reads hR
  have hln : (namesF st.now).length = st.now.length := List.length_map ..
  rw [hln] at hC ⊢
  have B1 := Aside0.mk hb
  have HM := Aside0.mk hln
  have HL := Aside0.mk HF.out.len
  obtain ⟨n, hn⟩ : ∃ n, n = st.now.length := ⟨_, rfl⟩
  have HNN := Aside0.mk hn
  rw [← hn] at hC ⊢
  have HC := Aside0.mk hC
  clear hR hb hC hln hlc hn
  go_wp2_with (fail)
  have H1 := Aside0.mk (H.out.below B1.out)
  go_loopg [3, 5, 6, 7] (n + 1) (fun kq v3 v5 v6 v7 w' => ∃ (j : Nat), v5 = .int .i64 (j : Int) ∧ Aside0 (j + kq = n + 1 ∧ j ≤ n) ∧ Aside0 (k121.R 121 w' w1.heap.size (fun k => w1.heap.size ≤ k) v3 (filesL (st.now.take j))) ∧ Aside0 (Below w1.heap.size w1 w'))
  case atStart => exact ⟨0, rfl, ⟨by omega, by omega⟩, ⟨Kd.R_nil _ _ _ _ _⟩, ⟨Below.refl _ _⟩⟩
  case round =>
    obtain ⟨j, rfl, HJ, HR, HB⟩ := hrel
    cases gk with
    | zero => have := HJ.out; omega
    | succ k1 =>
      by_cases hj : j < n
      · have hlt : ((j : Int) < (n : Int)) = True := eq_true (by omega)
        have hj2 : j < st.now.length := by have := HNN.out; omega
        obtain ⟨p, hp⟩ : ∃ p, st.now[j]? = some p := ⟨_, List.getElem?_eq_getElem hj2⟩
        have hmem : p ∈ st.now := List.mem_of_getElem? hp
        have hrd : rdOf ByteArray.empty (namesF st.now) (j : Int) = p.1 := by
          unfold rdOf namesF
          rw [Int.toNat_natCast, List.getD_eq_getElem?_getD, List.getElem?_map, hp]
          rfl
        have HP := Aside0.mk hp
        have HRE := Aside0.mk (HF.out.read hmem)
        have HSZ := Aside0.mk (nameS_size (HF.out.named p hmem))
        obtain ⟨ad, e, h0⟩ := (Kd.reads_of_C (enc := Value.string) (d := ByteArray.empty) (Kd.C_below HC.out HB.out)).at_ (j : Int) (by omega) (by omega)
        rw [Int.toNat_natCast, hrd] at h0
        subst e
        clear hp hmem hj2
        go_wp2_with (fail)
        refine (read_calls (H1.out.below HB.out) p.1 (Nat.le_trans HSZ.out (by decide))).mono ?_
        rintro e w2 ⟨rfl, hb⟩
        have B2 : Aside0 (Below w1.heap.size w1 w2) := ⟨HB.out.trans (hb.mono HB.out.size)⟩
        have R2 := Aside0.mk (Kd.R_below HR.out hb)
        obtain ⟨ad', e, h2⟩ := (Kd.reads_of_C (enc := Value.string) (d := ByteArray.empty) (Kd.C_below HC.out B2.out)).at_ (j : Int) (by omega) (by omega)
        rw [Int.toNat_natCast, hrd] at h2
        injection e with e
        subst e
        rw [HRE.out.1, HRE.out.2]
        clear h0 hrd hb
        go_wp2_with (first | ((with_reducible refine gate_builtin (b := .append) (xs := #[.tmp 25, .tmp 32]) rfl ?_); at_builtin; refine Kd.R_append k121 (w0 := w1) w1.heap.size rfl (.tmp 25) (.tmp 32) 81 121 (.agg #[(.string ⟨#[]⟩), (.string ⟨#[]⟩)]) 32 rfl Try.underlying81 info121 rfl (by decide) (by omega) u3 (filesL (st.now.take j)) (⟨p.1, p.2⟩ : S121) [.string p.1, .string p.2] (fun k => w1.heap.size ≤ k) (fun _ => False) rfl rfl (k121_mkM _ _ _ (⟨p.1, p.2⟩ : S121)) (fun _ hk => hk.elim) (fun k hk => Nat.le_trans B2.out.size hk) R2.out B2.out B2.out.size ?aL ?_; (case aL => have := HL.out; have := HJ.out; have := HNN.out; simp only [filesL, List.length_map, List.length_take]; omega); intro v5 w5 ho hb hg hat; have HO5 := Aside0.mk ho; have HB5 := Aside0.mk hb; clear ho hb hg hat))
        go_roundg k1
        case measure => have := HJ.out; omega
        case rel =>
          refine ⟨j + 1, by rw [IntWalk.wrap64_in _ (by have := HL.out; have := HNN.out; omega)]; rfl, ⟨by have := HJ.out; omega, by omega⟩, ⟨?_⟩, HB5⟩
          have e : filesL (st.now.take (j + 1)) = filesL (st.now.take j) ++ [⟨p.1, p.2⟩] := by
            obtain ⟨hl, hx⟩ := List.getElem?_eq_some_iff.1 HP.out
            unfold filesL
            rw [List.take_succ_eq_append_getElem hl, List.map_append, hx]
            rfl
          rw [e]
          exact HO5.out
      · obtain rfl : j = n := by have := HJ.out; omega
        have hlt : ((j : Int) < (j : Int)) = False := eq_false (by omega)
        go_wp2
        go_ret
        refine ⟨_, rfl, ?_, B1.out.trans (HB.out.mono B1.out.size)⟩
        have h := HR.out
        rw [HNN.out, List.take_length] at h
        exact Kd.R_mono (Kd.R_lower h B1.out.size) (fun k hk => Nat.le_trans B1.out.size hk)
theorem ref_rwide_l0 (s : ByteArray) (hs : s.size ≤ 1152921504606846976) (p w : Nat) (hw : w ≤ 8) (hp : p + w ≤ s.size) : ∀ d i : Nat, d + i = w → ∀ k, d < k →
    stowageref01_ReadWide.l0 k s p w (rwide s p i : Nat) ((p + i : Nat) : Int) = some (((rwide s p w : Nat) : Int), ((p + w : Nat) : Int), 0) := by
  intro d
  have e0 : wrap64 ((p : Int) + w) = ((p + w : Nat) : Int) := by rw [IntWalk.wrap64_in _ (by omega)]; omega
  induction d with
  | zero =>
    intro i hi k hk
    obtain ⟨k, rfl⟩ : ∃ m, k = m + 1 := ⟨k - 1, by omega⟩
    simp only [stowageref01_ReadWide.l0]
    obtain rfl : i = w := by omega
    rw [e0, if_neg (by omega)]
  | succ d ih =>
    intro i hi k hk
    obtain ⟨k, rfl⟩ : ∃ m, k = m + 1 := ⟨k - 1, by omega⟩
    simp only [stowageref01_ReadWide.l0]
    have e4 : wrap64 (((p + i : Nat) : Int) + 1) = ((p + (i + 1) : Nat) : Int) := by rw [IntWalk.wrap64_in _ (by omega)]; omega
    rw [e0, e4, if_pos (by omega), if_pos (by omega), if_pos (by omega)]
    have hb := bt_range s ((p + i : Nat) : Int)
    have hr := rwide_lt s p i
    have h7 : 256 ^ i ≤ 256 ^ 7 := Nat.pow_le_pow_right (by decide) (by omega)
    have e5 : IntKind.u64.wrap (IntKind.u64.wrap (((rwide s p i : Nat) : Int) * 256) + IntKind.u64.wrap (bt s ((p + i : Nat) : Int))) = ((rwide s p (i + 1) : Nat) : Int) := by
      rw [IntWalk.u64_in (_ * 256) (by omega), IntWalk.u64_in (bt _ _) (by omega), IntWalk.u64_in _ (by omega)]
      simp only [rwide]; omega
    rw [e5]
    exact ih (i + 1) (by omega) k (by omega)
theorem ref_rwide (s : ByteArray) (hs : s.size ≤ 1152921504606846976) (a w : Int) (k : Nat) (hk : 11 ≤ k) : stowageref01_ReadWide.f k s a w = some (readWide s a w) := by
  obtain ⟨k, rfl⟩ : ∃ m, k = m + 1 := ⟨k - 1, by omega⟩
  unfold stowageref01_ReadWide.f readWide
  by_cases h1 : w < 1
  · rw [if_pos h1, if_pos (.inl h1)]; simp [stowageref01_ReadWide.j0]
  by_cases h2 : 8 < w
  · rw [if_neg h1, if_pos h2, if_pos (.inr (.inl h2))]; simp [stowageref01_ReadWide.j0]
  by_cases h3 : a < 0
  · rw [if_neg h1, if_neg h2, if_pos h3, if_pos (.inr (.inr (.inl h3)))]; simp [stowageref01_ReadWide.j0]
  by_cases h4 : (s.size : Int) < a
  · rw [if_neg h1, if_neg h2, if_neg h3, if_pos (.inr (.inr (.inr h4)))]; simp [stowageref01_ReadWide.j0, h4]
  rw [if_neg h1, if_neg h2, if_neg h3, if_neg (by omega)]
  simp only [stowageref01_ReadWide.j0]
  rw [if_neg (by simp; omega), IntWalk.wrap64_in ((s.size : Int) - a) (by omega)]
  by_cases h5 : (s.size : Int) - a < w
  · rw [if_pos h5, if_pos h5]
  · rw [if_neg h5, if_neg (by omega)]
    obtain ⟨w, rfl⟩ := Int.eq_ofNat_of_zero_le (show 0 ≤ w by omega)
    obtain ⟨p, rfl⟩ := Int.eq_ofNat_of_zero_le (show 0 ≤ a by omega)
    have := ref_rwide_l0 s hs p w (by omega) (by omega) w 0 (by omega) k (by omega)
    simpa [rwide] using this
theorem ref_step (x : Nat) (hx : x < 2 ^ 32) : (if (Int.tmod (x : Int) 2) = 1 then Go.bits .xor .u32 ((Int.tdiv (x : Int) 2) % 4294967296) 3988292384 else (Int.tdiv (x : Int) 2) % 4294967296) = ((st1 x : Nat) : Int) := by
  rw [Int.tmod_eq_emod_of_nonneg (by omega), Int.tdiv_eq_ediv_of_nonneg (by omega)]
  have e : (x : Int) / 2 % 4294967296 = ((x / 2 : Nat) : Int) := by omega
  unfold st1
  by_cases h : x % 2 = 1
  · rw [if_pos (by omega), if_pos h, e]
    exact xor_u32 _ 3988292384 (by omega) (by decide)
  · rw [if_neg (by omega), if_neg h, e]; simp
theorem ref_l1 (s : ByteArray) (i : Int) : ∀ d : Nat, d ≤ 8 → ∀ (x k : Nat), x < 2 ^ 32 → d < k → stowageref02_Sum.l1 k s x i ((8 - d : Nat) : Int) = stowageref02_Sum.l0 (k - d - 1) s (stN d x : Nat) (wrap64 (i + 1)) := by
  intro d
  induction d with
  | zero =>
    intro _ x k _ hk
    obtain ⟨k, rfl⟩ : ∃ m, k = m + 1 := ⟨k - 1, by omega⟩
    simp only [stowageref02_Sum.l1]
    rw [if_neg (by omega)]; rfl
  | succ d ih =>
    intro hd x k hx hk
    obtain ⟨k, rfl⟩ : ∃ m, k = m + 1 := ⟨k - 1, by omega⟩
    simp only [stowageref02_Sum.l1]
    have hst := ref_step x hx
    have hw : wrap64 (((8 - (d + 1) : Nat) : Int) + 1) = ((8 - d : Nat) : Int) := by rw [IntWalk.wrap64_in _ (by omega)]; omega
    have hih := ih (by omega) _ k (st1_lt hx) (by omega)
    rw [if_pos (by omega), hw, show k + 1 - (d + 1) - 1 = k - d - 1 by omega]
    by_cases h : (Int.tmod (x : Int) 2) = 1
    · rw [if_pos h] at hst ⊢; rw [hst, hih]; rfl
    · rw [if_neg h] at hst ⊢; rw [hst, hih]; rfl
theorem ref_sum_l0 (s : ByteArray) (hs : s.size ≤ 1152921504606846976) : ∀ d i : Nat, d + i = s.size → ∀ (x k : Nat), x < 2 ^ 32 → 10 * d < k → stowageref02_Sum.l0 k s x i = some ((4294967295 - crc x ((nb s).drop i) : Nat) : Int) := by
  intro d
  induction d with
  | zero =>
    intro i hi x k hx hk
    obtain ⟨k, rfl⟩ : ∃ m, k = m + 1 := ⟨k - 1, by omega⟩
    simp only [stowageref02_Sum.l0]
    rw [if_neg (by omega), List.drop_eq_nil_of_le (by rw [nb_len]; omega)]
    have : crc x [] = x := rfl
    rw [this, show (4294967295 - (x : Int)) % 4294967296 = ((4294967295 - x : Nat) : Int) by omega]
  | succ d ih =>
    intro i hi x k hx hk
    obtain ⟨k, rfl⟩ : ∃ m, k = m + 1 := ⟨k - 1, by omega⟩
    have hb := bt_range s i
    simp only [stowageref02_Sum.l0]
    rw [if_pos (by omega), if_pos (by omega), byte_in x hx]
    rw [show (0 : Int) = ((8 - 8 : Nat) : Int) from rfl, ref_l1 s _ 8 (by omega) _ k (Nat.xor_lt_two_pow hx (by omega)) (by omega)]
    rw [show wrap64 ((i : Int) + 1) = ((i + 1 : Nat) : Int) by rw [IntWalk.wrap64_in _ (by omega)]; omega]
    rw [ih (i + 1) (by omega) _ _ (stN_lt 8 (Nat.xor_lt_two_pow hx (by omega))) (by omega)]
    rw [nb_bt s i (by omega)]
    rfl
theorem ref_sum (s : ByteArray) (hs : s.size ≤ 1152921504606846976) (k : Nat) (hk : 10 * s.size < k) : stowageref02_Sum.f k s = some ((sumOf (nb s) : Nat) : Int) := by
  have := ref_sum_l0 s hs s.size 0 (by omega) 4294967295 k (by decide) hk
  simpa [stowageref02_Sum.f, sumOf] using this
theorem ref_unframe (s : ByteArray) (hs : s.size ≤ 1152921504606846976) (a : Int) (k : Nat) (hk : 10 * s.size + 100 < k) : stowageref02_Unframe.f k s a = some (unframe s a) := by
  obtain ⟨k, rfl⟩ : ∃ m, k = m + 1 := ⟨k - 1, by omega⟩
  unfold stowageref02_Unframe.f unframe
  rw [ref_rwide s hs a 4 (k + 1) (by omega)]
  simp only [Option.bind_some]
  by_cases ha : a < 0 ∨ (s.size : Int) < a
  · have : readWide s a 4 = (0, 0, 1) := by unfold readWide; rw [if_pos (by omega)]
    rw [this, if_pos ha]; simp
  · rw [if_neg ha]
    obtain ⟨p, rfl⟩ := Int.eq_ofNat_of_zero_le (show 0 ≤ a by omega)
    rw [readWide4 s p (by omega), Int.toNat_natCast]
    unfold unframeN
    by_cases h1 : s.size - p < 4
    · rw [if_pos h1, if_pos h1]; simp
    · rw [if_neg h1, if_neg h1]
      simp only [if_true]
      have hr := rwide_lt s p 4
      by_cases h2 : 262144 < rwide s p 4
      · rw [if_pos (by omega), if_pos h2]
      · rw [if_neg (by omega), if_neg h2]
        rw [ref_rwide s hs _ 4 (k + 1) (by omega), readWide4 s (p + 4) (by omega)]
        simp only [Option.bind_some]
        by_cases h0 : s.size - (p + 4) < 4
        · rw [if_pos h0, if_pos (show s.size - (p + 4) < 4 + rwide s p 4 by omega)]
          simp [stowageref02_Unframe.j0]
        · rw [if_neg h0]
          simp only [if_true, stowageref02_Unframe.j0]
          have w1 : wrap64 ((s.size : Int) - ((p + 4 + 4 : Nat) : Int)) = (s.size : Int) - ((p + 4 + 4 : Nat) : Int) := IntWalk.wrap64_in _ (by omega)
          have w2 : wrap64 ((rwide s p 4 : Nat) : Int) = ((rwide s p 4 : Nat) : Int) := IntWalk.wrap64_in _ (by omega)
          rw [w1, w2]
          by_cases h3 : s.size - (p + 4) < 4 + rwide s p 4
          · rw [if_pos (decide_eq_true (by omega)), if_pos h3]
          · rw [if_neg (by simp only [decide_eq_true_eq]; omega), if_neg h3]
            have w3 : wrap64 (((p + 4 + 4 : Nat) : Int) + ((rwide s p 4 : Nat) : Int)) = ((p + 8 + rwide s p 4 : Nat) : Int) := by rw [IntWalk.wrap64_in _ (by omega)]; omega
            rw [w3, if_pos (by omega), if_pos (by omega), if_pos (by omega), if_pos (by omega), if_pos (by omega), if_pos (by omega)]
            simp only [Int.toNat_natCast]
            have hz1 : (s.extract p (p + 4)).size = 4 := by rw [ByteArray.size_extract]; omega
            have hz2 : (s.extract (p + 4 + 4) (p + 8 + rwide s p 4)).size = rwide s p 4 := by rw [ByteArray.size_extract]; omega
            rw [if_pos (by omega), ref_sum _ (by rw [ByteArray.size_append]; omega) k (by rw [ByteArray.size_append]; omega)]
            simp only [Option.bind_some]
            have hl := sumOf_lt (nb (s.extract p (p + 4) ++ s.extract (p + 4 + 4) (p + 8 + rwide s p 4)))
            rw [IntWalk.u64_in _ (by omega)]
            have e8 : p + 4 + 4 = p + 8 := by omega
            simp only [e8]
            by_cases h4 : rwide s (p + 4) 4 = sumOf (nb (s.extract p (p + 4) ++ s.extract (p + 8) (p + 8 + rwide s p 4)))
            · rw [if_pos (by omega), if_pos h4]
            · rw [if_neg (by omega), if_neg h4]
/-! the document's answer: what files say -/
def tupL (r : (Int × Int × List Int × ByteArray) × Bool × Int) : Int × Int × List Int × ByteArray × Bool × Int := (r.1.1, r.1.2.1, r.1.2.2.1, r.1.2.2.2, r.2.1, r.2.2)
theorem rload_j0 (x : Bool) (t : ByteArray) (ht : t.size ≤ 140737488351232) (R : (Int × Int × List Int × ByteArray) × Bool × Int) (hx : x = true → R = noL 31) (hf : x = false → R = if (decS 7 t).2.2.2.2 = 0 then (((decS 7 t).1, (decS 7 t).2.1, (decS 7 t).2.2.1, (decS 7 t).2.2.2.1), true, 0) else noL 31) :
    Ev (fun k => stowageref07_Load.j0 k t x) (tupL R) := by
  cases x with
  | true =>
    rw [hx rfl]
    exact Ev.step (f := fun _ => some (0, 0, ([] : List Int), (⟨#[]⟩ : ByteArray), false, 31)) (fun k => by rw [stowageref07_Load.j0, if_pos rfl]) (Ev.now _)
  | false =>
    rw [hf rfl]
    have r1 : ∀ k, stowageref07_Load.j0 (k + 1) t false = _ := fun k => by rw [stowageref07_Load.j0, if_neg (by simp)]
    refine Ev.step r1 (Ev.bind (rdec_ev t ht) ?_)
    by_cases h : (decS 7 t).2.2.2.2 = 0
    · simp only [if_pos h]; exact Ev.now _
    · simp only [if_neg h]; exact Ev.now _
theorem nS_less : Op.bytesLess nS.toList nS.toList = false := by decide +kernel
theorem nN_less : Op.bytesLess nN.toList nS.toList = false := by decide +kernel
theorem nS_same : (nS.toList == nS.toList) = true := by decide +kernel
theorem nN_same : (nN.toList == nS.toList) = false := by decide +kernel
theorem rfind_ev (x y : Option ByteArray) : Ev (fun k => stowageref04_Find.f k (filesL (snF x y)) nS) (0, x.isSome) := by
  unfold stowageref04_Find.f
  cases x with
  | none =>
    cases y with
    | none => exact Ev.step (f := fun _ => some (0, false)) (fun k => by rw [stowageref04_Find.l0]; rfl) (Ev.now _)
    | some t =>
      refine Ev.step (f := fun _ => some (0, false)) (fun k => ?_) (Ev.now _)
      have hl : (0 : Int) < ((filesL (snF none (some t))).length : Int) := by show (0 : Int) < ((1 : Nat) : Int); decide
      rw [stowageref04_Find.l0, if_pos hl, if_pos (by decide)]
      show (if Op.bytesLess nN.toList nS.toList = true then _ else some ((0 : Int), (nN.toList == nS.toList))) = _
      rw [nN_less, nN_same]
      rfl
  | some s =>
    refine Ev.step (f := fun _ => some (0, true)) (fun k => ?_) (Ev.now _)
    have hl : 0 < (filesL (snF (some s) y)).length := by cases y <;> exact Nat.succ_pos _
    rw [stowageref04_Find.l0, if_pos (by omega), if_pos (by decide)]
    show (if Op.bytesLess nS.toList nS.toList = true then _ else some ((0 : Int), (nS.toList == nS.toList))) = _
    rw [nS_less, nS_same]
    rfl
theorem rload_ev (x y : Option ByteArray) (hx : osz x ≤ 140737488351232) : Ev (fun k => stowageref07_Load.f k (filesL (snF x y))) (tupL (loadR x)) := by
  unfold stowageref07_Load.f
  refine Ev.bind (rfind_ev x y) ?_
  cases x with
  | none => exact Ev.now _
  | some s =>
    have hs : s.size ≤ 140737488351232 := hx
    have hl : 0 < (filesL (snF (some s) y)).length := by cases y <;> exact Nat.succ_pos _
    have hr : (rd_T121 (filesL (snF (some s) y)) 0).f1 = s := rfl
    refine Ev.congr (f := fun k => (stowageref02_Unframe.f k s 0).bind fun bt318 => (if bt318.2.2 = 0 then (stowageref07_Load.j0 k bt318.1 (bt318.2.1 != (s.size : Int))) else (stowageref07_Load.j0 k bt318.1 true))) (fun k => ?_) ?_
    · show (if (true : Bool) = true then (if (0 : Int) ≤ 0 then (if (0 : Int) < ((filesL (snF (some s) y)).length : Int) then _ else _) else _) else _) = _
      rw [if_pos rfl, if_pos (by decide), if_pos (by omega), hr]
    · have hu : Ev (fun k => stowageref02_Unframe.f k s 0) (unframe s 0) := ⟨10 * s.size + 101, fun k hk => ref_unframe s (by omega) 0 k (by omega)⟩
      refine Ev.bind hu ?_
      have hz : (unframe s 0).1.size ≤ 140737488351232 := Nat.le_trans (unframe_size s 0) hs
      have hR : loadR (some s) = fileR s := rfl
      rw [hR]
      unfold fileR
      simp only
      generalize unframe s 0 = u at hz ⊢
      by_cases h0 : u.2.2 = 0
      · refine Ev.congr (fun k => if_pos h0) ?_
        refine rload_j0 _ u.1 hz _ (fun h => ?_) (fun h => ?_)
        · rw [if_neg (fun g => absurd g.2.1 (bne_iff_ne.1 h))]
        · have h1 := bne_eq_false_iff_eq.1 h
          by_cases h2 : (decS 7 u.1).2.2.2.2 = 0
          · rw [if_pos ⟨h0, h1, h2⟩, if_pos h2]
          · rw [if_neg (fun g => h2 g.2.2), if_neg h2]
      · refine Ev.congr (fun k => if_neg h0) ?_
        refine rload_j0 true u.1 hz _ (fun _ => if_neg (fun g => h0 g.1)) (fun h => by cases h)
/-! ShotLoads: the states -/
abbrev cS (F : ByteArray) : Chg := ⟨1, nS, ⟨#[]⟩, F, 0⟩
def free (x y : Option ByteArray) (ws : List Chg) (n : Int) : DK := ⟨snF none none, snF x y, ws, n, false, [], -1⟩
theorem do_S (x y : Option ByteArray) (F : ByteArray) : doC (snF x y) (cS F) = snF (some F) y := by
  unfold doC; rw [if_neg (show ¬ (1 : Int) = 0 by decide), if_pos rfl]; exact snF_putS x y F
theorem write_free (x y : Option ByteArray) (ws : List Chg) (n : Int) (nm s : ByteArray) (hn : nameS nm = true) : writeK (free x y ws n) nm s = (addK (free x y ws n) ⟨1, nm, ⟨#[]⟩, s, 0⟩, 0) := by
  unfold writeK
  rw [if_pos (show askE (free x y ws n).down [nm] = 0 from ask1 _ hn), if_neg (by unfold roomE free; simp)]
  rfl
theorem write_freeS (x y : Option ByteArray) (ws : List Chg) (n : Int) (s : ByteArray) : writeK (free x y ws n) nS s = (free (some s) y (ws ++ [cS s]) (n + 1), 0) := by
  rw [write_free x y ws n nS s nS_name]
  unfold addK free
  rw [do_S]
theorem write_freeN (x y : Option ByteArray) (ws : List Chg) (n : Int) (s : ByteArray) : writeK (free x y ws n) nN s = (free x (some s) (ws ++ [cW s]) (n + 1), 0) := by
  rw [write_free x y ws n nN s nN_name]
  unfold addK free
  rw [do_W]
theorem okC_S {x y : Option ByteArray} {F : ByteArray} (h : osz x + osz y + F.size ≤ 9000000000000000000) : OkC (snF x y) (cS F) :=
  ⟨show (0 : Int) ≤ 1 ∧ (1 : Int) ≤ 4 by decide, by show 4 ≤ _; decide, by show 0 ≤ _; decide, by have := snF_len x y; omega, by rw [snF_tot]; exact Nat.le_trans h (by decide), fun e => absurd e (show ¬ (1 : Int) = 4 by decide)⟩
theorem load_nofall (x y : Option ByteArray) (n r : Int) : ∃ n', loadK (idle x y n [] r false) = (idle x none n' [] r false, 0) := by
  rcases load_cases x y n [] r with ⟨_, _, h⟩ | ⟨_, _, _, h⟩ | ⟨_, _, i, y', hi, _⟩
  · exact ⟨_, h⟩
  · exact ⟨_, h⟩
  · exact absurd hi (Nat.not_lt_zero _)
theorem fine_idle (x y : Option ByteArray) (n : Int) (f : List Fal) (r : Int) : Fine (idle x y n f r false) :=
  ⟨rfl, snF_rises x y, fun p hp => by
    have hp : p ∈ snF x y := hp
    unfold snF at hp
    rcases List.mem_append.1 hp with h | h
    · cases x with
      | none => cases h
      | some s => rw [op1, List.mem_singleton] at h; rw [h]; exact nS_name
    · cases y with
      | none => cases h
      | some s => rw [op1, List.mem_singleton] at h; rw [h]; exact nN_name, Nat.le_trans (snF_len x y) (by decide)⟩
theorem loadR_len (x : Option ByteArray) : (loadR x).1.2.2.1.length ≤ 1000000000000000000 := by
  cases x with
  | none => exact Nat.zero_le _
  | some F =>
    show (fileR F).1.2.2.1.length ≤ _
    unfold fileR
    simp only
    split
    · show (decS 7 _).2.2.1.length ≤ _
      rcases dec_cases 7 (unframe F 0).1 with h | ⟨a, b, ms, d, h, h0⟩
      · rw [h]; exact Nat.zero_le _
      · rw [h]; exact Nat.le_trans (fineS h0).l1 (by decide)
    · exact Nat.zero_le _
theorem waits_idle {w : World} {d : Nat} {ok : Nat → Prop} {x y : Option ByteArray} {n : Int} {f : List Fal} {r : Int} (h : IsD w d ok (idle x y n f r false)) : Calls Try.prog 40 #[.pointer (some ⟨d, 0, none⟩)] w fun e w' => e = .returned (.int .i64 0) ∧ Below w.heap.size w w' :=
  (waits_calls h).mono (fun e w' g => ⟨g.1, g.2 ▸ Below.refl _ _⟩)
theorem nil_Load (w : World) : Calls Try.prog 24 #[.pointer none] w fun e w' => e = .returned (.tuple #[.agg #[.int .i64 0, .int .i64 0, .slice none 0 0, .string ⟨#[]⟩], .bool false, .int .i64 1]) ∧ Below w.heap.size w w' := by
  have hu := Try.underlying24
  have HX := Aside0.mk (heap_alloc_new w (.cells #[.int .i64 0, .int .i64 0, .slice none 0 0, .string ⟨#[]⟩] 24 (0, 0)))
  have e0 := (blk_cell HX.out 0).trans rfl
  have e1 := (blk_cell HX.out 1).trans rfl
  have e2 := (blk_cell HX.out 2).trans rfl
  have e3 := (blk_cell HX.out 3).trans rfl
  go_enter Try.func24, Try.ntmps24
  go_wp2
  refine bodyPost_ret (results_ctt rfl _ _ w.heap.size 24 #[.int .i64 0, .int .i64 0, .slice none 0 0, .string ⟨#[]⟩] (0, 0) _ rfl HX.out rfl rfl rfl) rfl ?_
  exact ⟨rfl, below_alloc (Below.refl _ _) _⟩
end Go.Proofs.Ythjfofgcikfepaa.Q
