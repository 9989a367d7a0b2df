/- The document's answer: texts. -/
import Derived.Test.YthjfofgcikfepaaShC
namespace Go.Proofs.Ythjfofgcikfepaa.Q
open Go.Maps Go.WideShapes Go.WideMaps Go.RowKit Go.Proofs.YthjfofgcikfepaaW.PrintWords Go.Proofs.YthjfofgcikfepaaW.PrintLast Go.Proofs.YthjfofgcikfepaaW.PrintMore
set_option linter.unusedVariables false
set_option linter.unusedSimpArgs false
set_option maxHeartbeats 10000000
set_option maxRecDepth 100000
theorem ref_num_l : ∀ d x : Nat, x < 128 ^ d → 0 < d → d ≤ 20 → x < 2 ^ 64 → ∀ (k : Nat), d ≤ k → stowageref01_Number.f k x = some (strOfNums (encN d x)) := by
  intro d
  induction d with
  | zero => intro x _ h; omega
  | succ d ih =>
    intro x hx _ hd20 h64 k hk
    obtain ⟨k, rfl⟩ : ∃ m, k = m + 1 := ⟨k - 1, by omega⟩
    simp only [stowageref01_Number.f, encN]
    by_cases h : x < 128
    · rw [if_pos (by omega), if_pos h, show (x : Int) % 256 = x by omega]
    · rw [if_neg (by omega), if_neg h]
      have hd : 0 < d := by
        rcases Nat.eq_zero_or_pos d with h0 | h0
        · subst h0; simp at hx; omega
        · exact h0
      have e1 : IntKind.u64.wrap (Int.tdiv (x : Int) 128) = ((x / 128 : Nat) : Int) := by
        rw [Int.tdiv_eq_ediv_of_nonneg (by omega), IntWalk.u64_in _ (by omega)]; omega
      have e2 : IntKind.u64.wrap (Int.tmod (x : Int) 128 + 128) % 256 = ((x % 128 + 128 : Nat) : Int) := by
        rw [Int.tmod_eq_emod_of_nonneg (by omega), IntWalk.u64_in _ (by omega)]; omega
      rw [e1, e2]
      simp only [Option.bind_some]
      rw [ih (x / 128) (by rw [Nat.pow_succ] at hx; exact Nat.div_lt_of_lt_mul (by omega)) hd (by omega) (by omega) k (by omega)]
      simp only [Option.bind_some]
      have hl := encN_len d (x / 128)
      rw [if_pos (by rw [strOfNums_size, strOfNums_size]; simp; omega), numS_app]
      rfl
theorem ref_num (x : Nat) (hx : x < 2 ^ 64) (k : Nat) (hk : 10 ≤ k) : stowageref01_Number.f k x = some (numS x) := ref_num_l 10 x (by omega) (by omega) (by omega) hx k hk
theorem ref_text (s : ByteArray) (hs : s.size ≤ 140737488351232) (k : Nat) (hk : 21 ≤ k) : stowageref01_Text.f k s = some (numS s.size ++ s) := by
  unfold stowageref01_Text.f
  rw [IntWalk.u64_in _ (by omega), ref_num _ (by omega) k (by omega)]
  simp only [Option.bind_some]
  have := numS_size s.size
  rw [if_pos (by omega)]

theorem rnum_ev {n : Int} (h0 : 0 ≤ n) (h1 : n < 18446744073709551616) : Ev (fun k => stowageref01_Number.f k (IntKind.u64.wrap n)) (numS n.toNat) := by
  refine ⟨10, fun k hk => ?_⟩
  obtain ⟨m, rfl⟩ := Int.eq_ofNat_of_zero_le h0
  rw [IntWalk.u64_in _ (by omega)]
  exact ref_num m (by omega) k hk
theorem rnumL_ev {n : Nat} (h : n < 18446744073709551616) : Ev (fun k => stowageref01_Number.f k (IntKind.u64.wrap (n : Int))) (numS n) := by
  have := rnum_ev (n := (n : Int)) (by omega) (by omega)
  rw [Int.toNat_natCast] at this
  exact this
/-! the document's answer: texts, and what a text says -/
theorem rtext_ev {s : ByteArray} (h : s.size ≤ 131072) : Ev (fun k => stowageref01_Text.f k s) (numS s.size ++ s) := ⟨21, fun k hk => ref_text s (by omega) k hk⟩
theorem renc_go (a b : Int) (ms : List Int) (d : ByteArray) (hF : FineS a b ms d) : ∀ (t : List Int) (i : Nat) (s : ByteArray), ms.drop i = t → i ≤ ms.length → s.size ≤ 30 + 10 * i →
    Ev (fun k => stowageref07_Encode.l0 k s (i : Int) a b ms d) (s ++ (encM t ++ (numS d.size ++ d)), 0)
  | [], i, s, ht, hi, hs => by
    have hge : ms.length ≤ i := by have := congrArg List.length ht; simp at this; omega
    have hd := hF.dat
    have hl := hF.l1
    refine Ev.step (f := fun k => (stowageref01_Text.f k d).bind fun t138 => (if s.size + t138.size ≤ 9223372036854775807 then (some (s ++ t138, 0)) else (none))) (fun k => by rw [stowageref07_Encode.l0, if_neg (by omega)]) ?_
    refine Ev.bind (rtext_ev hd) ?_
    have e : encM [] ++ (numS d.size ++ d) = numS d.size ++ d := nb_inj (by rw [nb_app]; rfl)
    rw [e]
    exact Ev.ifp (by have := numS_size d.size; rw [size_app]; omega) (Ev.now _)
  | m :: t, i, s, ht, hi, hs => by
    have hlt : i < ms.length := by have := congrArg List.length ht; simp at this; omega
    have e := List.drop_eq_getElem_cons hlt
    rw [ht] at e
    injection e with e1 e2
    have hl := hF.l1
    have hm := hF.mem m (by rw [e1]; exact List.getElem_mem hlt)
    have r1 : ∀ k, stowageref07_Encode.l0 (k + 1) s (i : Int) a b ms d = ((stowageref01_Number.f k (IntKind.u64.wrap m)).bind fun t137 => (if s.size + t137.size ≤ 9223372036854775807 then (stowageref07_Encode.l0 k (s ++ t137) ((i + 1 : Nat) : Int) a b ms d) else (none))) := fun k => by
      rw [stowageref07_Encode.l0, if_pos (by omega), if_pos (by omega), rdI ms i hlt, w1 i (by omega), ← e1]
    have z := numS_size m.toNat
    have hG := renc_go a b ms d hF t (i + 1) (s ++ numS m.toNat) e2.symm (by omega) (by rw [size_app]; omega)
    rw [app_assoc, ← app_assoc (numS m.toNat)] at hG
    exact Ev.step r1 (Ev.bind (rnum_ev hm.1 (by omega)) (Ev.ifp (by omega) hG))
theorem renc_ev (a b : Int) (ms : List Int) (d : ByteArray) : Ev (fun k => stowageref07_Encode.f k a b ms d) (encS a b ms d) := by
  unfold stowageref07_Encode.f encS
  refine Ev.bind (rchk_ev a b ms d) ?_
  by_cases h : chkS a b ms d = 0
  · rw [if_pos h]
    have hF := fineS h
    have h1 := hF.a0; have h2 := hF.a1; have h3 := hF.b0; have h4 := hF.b1; have h5 := hF.l1
    have z1 := numS_size a.toNat
    have z2 := numS_size b.toNat
    have z3 := numS_size ms.length
    refine Ev.congr (fun k => if_pos h) (Ev.bind (rnum_ev h1 (by omega)) (Ev.bind (rnum_ev h3 (by omega)) (Ev.ifp (by omega) (Ev.bind (rnumL_ev (by omega)) (Ev.ifp (by rw [size_app]; omega) ?_)))))
    exact renc_go a b ms d hF ms 0 _ rfl (by omega) (by rw [size_app, size_app]; omega)
  · rw [if_neg h]
    exact Ev.congr (fun k => if_neg h) (Ev.now _)
end Go.Proofs.Ythjfofgcikfepaa.Q
