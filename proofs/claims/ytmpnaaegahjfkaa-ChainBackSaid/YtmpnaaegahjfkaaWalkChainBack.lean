
/- ChainBack answers true at every input. -/
import Derived.Test.YtmpnaaegahjfkaaPe
import Derived.Test.YtmpnaaegahjfkaaQx25
namespace Go.Proofs.Ytmpnaaegahjfkaa.Q
open Go.RowKit Go.Proofs.YtmpnaaegahjfkaaW.PrintWords Go.Proofs.YtmpnaaegahjfkaaW.PrintLast Go.Proofs.YtmpnaaegahjfkaaW.PrintMore
set_option linter.unusedVariables false
set_option linter.unusedSimpArgs false
theorem okV_of {v : S24} (hv : ((Lit.int .i64 v.f0).wf = true ∧ (True ∧ ((Lit.int .i64 v.f2).wf = true ∧ (v.f3.size ≤ 140737488351232 ∧ (v.f4.length * 24 ≤ 140737488351232 ∧ ∀ y1 ∈ v.f4, (y1.f0.size ≤ 140737488351232 ∧ (Lit.int .i64 y1.f1).wf = true))))))) : OkV v := ⟨Nat.le_trans hv.2.2.2.1 (by omega), by have := hv.2.2.2.2.1; omega, fun p hp => Nat.le_trans (hv.2.2.2.2.2 p hp).1 (by omega)⟩
/-! what is told is read again -/
theorem adv {s t : ByteArray} {p : Nat} {rest : List Nat} (hp : p ≤ s.size) (h : (nb s).drop p = nb t ++ rest) : p + t.size ≤ s.size ∧ (nb s).drop (p + t.size) = rest := by
  have := at_end hp h
  rw [nb_len] at this
  exact this
theorem pBool_at {s : ByteArray} {p n : Nat} {rest : List Nat} (hp : p ≤ s.size) (hn : n ≤ 1) (h : (nb s).drop p = nb (numS n) ++ rest) : pBool s p 0 = ((n : Int) == 1, ((p + (numS n).size : Nat) : Int), 0) := by
  unfold pBool
  rw [if_pos rfl, pNum_at hp (by omega) (by omega) h]
  rfl
theorem dPieces_at {s : ByteArray} {rest : List Nat} : ∀ (l : List S72) (p : Nat), (∀ q ∈ l, q.f0.size ≤ 64 ∧ 0 ≤ q.f1 ∧ q.f1 ≤ 4096) → p ≤ s.size → (nb s).drop p = nb (encP l) ++ rest → dPieces s l.length p 0 = (l, ((p + (encP l).size : Nat) : Int), 0)
  | [], p, hf, hp, h => by rw [encP]; rfl
  | q :: l, p, hf, hp, h => by
    have hq := hf q List.mem_cons_self
    rw [encP, nb_app, nb_app, List.append_assoc, List.append_assoc] at h
    have hT := pText_at (m := 64) hp (by omega) (by omega) h
    obtain ⟨p1, h1⟩ := adv hp h
    rw [size_app] at p1 h1
    obtain ⟨n, hn⟩ := Int.eq_ofNat_of_zero_le hq.2.1
    have e1 : q.f1.toNat = n := by rw [hn]; rfl
    rw [e1] at h1
    have hN := pNum_at (m := 4096) p1 (by omega) (by omega) h1
    obtain ⟨p2, h2⟩ := adv p1 h1
    have hG := dPieces_at l _ (fun r hr => hf r (List.mem_cons_of_mem _ hr)) p2 h2
    rw [List.length_cons, dPieces, hT]
    simp only
    rw [hN]
    simp only
    rw [hG]
    have e2 : (⟨q.f0, (n : Int)⟩ : S72) = q := by rw [← hn]
    have e3 : (encP (q :: l)).size = (((numS q.f0.size).size + q.f0.size) + (numS n).size) + (encP l).size := by rw [encP, size_app, size_app, size_app, e1]
    rw [e2, e3, Nat.add_assoc (p + _), Nat.add_assoc p, ← Nat.add_assoc ((numS q.f0.size).size + q.f0.size)]
theorem dVersion_at {s : ByteArray} {v : S24} {rest : List Nat} {p : Nat} (hF : Fine v) (hp : p ≤ s.size) (h : (nb s).drop p = nb (encV v) ++ rest) : dVersion s p 0 = ⟨v, ((p + (encV v).size : Nat) : Int), 0⟩ := by
  have i0 := hF.id0
  have i1 := hF.id1
  obtain ⟨n, hn⟩ := Int.eq_ofNat_of_zero_le (show 0 ≤ v.f0 by omega)
  have e1 : v.f0.toNat = n := by rw [hn]; rfl
  by_cases hm : v.f1 = true
  · rw [encV, if_pos hm, nb_app, List.append_assoc, e1] at h
    have hN := pNum_at (m := 1099511627776) hp (by omega) (by omega) h
    obtain ⟨p1, h1⟩ := adv hp h
    have hB := pBool_at p1 (by omega) h1
    unfold dVersion
    simp only
    rw [hN]
    simp only
    rw [hB]
    simp only
    rw [if_pos (by rfl)]
    obtain ⟨m1, m2, m3⟩ := hF.mark hm
    have e2 : (⟨(n : Int), true, 0, ⟨#[]⟩, []⟩ : S24) = v := by
      cases v with | mk a b c d e => simp only at hn hm m1 m2 m3; rw [hn, hm, m1, m2, m3]
    rw [e2, encV, if_pos hm, size_app, e1, Nat.add_assoc]
  · rw [encV, if_neg hm, nb_app, List.append_assoc, e1, nb_app, nb_app, nb_app, List.append_assoc, List.append_assoc, List.append_assoc] at h
    have hN := pNum_at (m := 1099511627776) hp (by omega) (by omega) h
    obtain ⟨p1, h1⟩ := adv hp h
    have hB := pBool_at p1 (by omega) h1
    obtain ⟨p2, h2⟩ := adv p1 h1
    have hlen := hF.len
    have hC := pNum_at (m := 512) p2 (by omega) (by omega) h2
    obtain ⟨p3, h3⟩ := adv p2 h2
    have hP := dPieces_at v.f4 _ hF.ids p3 h3
    obtain ⟨p4, h4⟩ := adv p3 h3
    have hs4 := hF.sum
    have hT := pText_at (m := 64) p4 (by omega) (by omega) h4
    unfold dVersion
    simp only
    rw [hN]
    simp only
    rw [hB]
    simp only
    rw [if_neg (by decide)]
    unfold dPlain
    simp only
    rw [hC]
    simp only [Int.toNat_natCast]
    rw [hP]
    simp only
    rw [hT]
    simp only
    rw [Bool.not_eq_true] at hm
    have m1 := hF.plain hm
    have e2 : (⟨(n : Int), false, (piecesS v.f4).1, v.f3, v.f4⟩ : S24) = v := by
      rw [m1]
      cases v with | mk a b c d e => simp only at hn hm; rw [hn, hm]
    have e3 : p + (encV v).size = p + (numS n).size + (numS 0).size + (numS v.f4.length).size + (encP v.f4).size + ((numS v.f3.size).size + v.f3.size) := by
      rw [encV, if_neg (by rw [hm]; simp), size_app, size_app, size_app, size_app, size_app, e1]; omega
    rw [e2, e3]
theorem dVersions_at {s : ByteArray} {rest : List Nat} : ∀ (l : List S24) (p : Nat), (∀ v ∈ l, Fine v) → p ≤ s.size → (nb s).drop p = nb (encL l) ++ rest → dVersions s l.length p 0 = (l, ((p + (encL l).size : Nat) : Int), 0)
  | [], p, hf, hp, h => by rw [encL]; rfl
  | v :: l, p, hf, hp, h => by
    rw [encL, nb_app, List.append_assoc] at h
    have hV := dVersion_at (hf v List.mem_cons_self) hp h
    obtain ⟨p1, h1⟩ := adv hp h
    have hG := dVersions_at l _ (fun r hr => hf r (List.mem_cons_of_mem _ hr)) p1 h1
    rw [List.length_cons, dVersions, hV]
    simp only
    rw [hG, encL, size_app, Nat.add_assoc]
theorem back1 {l : List S24} (hR : rightS l = true) : decodeS (numS l.length ++ encL l) = (l, 0) := by
  have h32 := (right_at hR).1
  have hf : ∀ v ∈ l, Fine v := fun v hv => fine_of (right_mem hR hv)
  have h : (nb (numS l.length ++ encL l)).drop 0 = nb (numS l.length) ++ (nb (encL l) ++ []) := by rw [List.drop_zero, nb_app, List.append_nil]
  have hz : (numS l.length ++ encL l).size = 0 + (numS l.length).size + (encL l).size := by rw [size_app]; omega
  generalize numS l.length ++ encL l = s at h hz
  have hN := pNum_at (m := 32) (Nat.zero_le _) (by omega) (by omega) h
  obtain ⟨p1, h1⟩ := adv (Nat.zero_le _) h
  have hV := dVersions_at l _ hf p1 h1
  unfold decodeS
  simp only
  rw [show (0 : Int) = ((0 : Nat) : Int) from rfl, show pNum s ((0 : Nat) : Int) ((0 : Nat) : Int) 32 = _ from hN]
  simp only [Int.toNat_natCast]
  rw [hV]
  unfold finS pEnd
  simp only
  rw [if_pos trivial, if_neg (show ¬ (((0 + (numS l.length).size + (encL l).size : Nat) : Int) < (s.size : Int)) by omega), if_pos rfl, if_pos hR]
  rfl
/-! a text in one form alone -/
theorem dPieces_form {s : ByteArray} : ∀ (n p : Nat) (e : Int), p ≤ s.size → (dPieces s n p e).2.2 = 0 → e = 0 ∧ ∃ q : Nat, (dPieces s n p e).2.1 = (q : Int) ∧ q ≤ s.size ∧ (nb s).drop p = nb (encP (dPieces s n p e).1) ++ (nb s).drop q
  | 0, p, e, hp, h => ⟨h, p, rfl, hp, by rw [dPieces, encP]; rfl⟩
  | n + 1, p, e, hp, h => by
    rw [dPieces] at h
    rw [dPieces]
    have hN1 := fun h0 => @pNum_form s p e 4096 h0
    -- the number behind the text
    by_cases hT : (pText s p e 64).2.2 = 0
    · obtain ⟨he, t, t1, t2, t3, t4⟩ := pText_form hT
      rw [t1] at h ⊢
      simp only at h ⊢
      by_cases hN : (pNum s ((p + ((numS t.size).size + t.size) : Nat) : Int) 0 4096).2.2 = 0
      · obtain ⟨_, m, m1, m2, m3, m4⟩ := pNum_form hN
        rw [m1] at h ⊢
        simp only at h ⊢
        obtain ⟨_, q, q1, q2, q3⟩ := dPieces_form n _ 0 m3 h
        refine ⟨he, q, q1, q2, ?_⟩
        rw [encP, nb_app, nb_app, t4, m4, q3, List.append_assoc, List.append_assoc]
        rfl
      · exfalso
        exact hN (dPieces_e0 n _ _ h)
    · exfalso
      have h1 := dPieces_e0 n _ _ h
      exact hT (pNum_zero h1).1
where
  dPieces_e0 {s : ByteArray} : ∀ (n : Nat) (a e : Int), (dPieces s n a e).2.2 = 0 → e = 0
  | 0, a, e, h => h
  | n + 1, a, e, h => by
    rw [dPieces] at h
    exact (pText_zero (pNum_zero (dPieces_e0 n _ _ h)).1).1
theorem dPieces_e0 {s : ByteArray} (n : Nat) (a e : Int) (h : (dPieces s n a e).2.2 = 0) : e = 0 := dPieces_form.dPieces_e0 n a e h
theorem dVersion_form {s : ByteArray} {p : Nat} {e : Int} (hp : p ≤ s.size) (h : (dVersion s p e).e = 0) : e = 0 ∧ ∃ q : Nat, (dVersion s p e).a = (q : Int) ∧ q ≤ s.size ∧ (nb s).drop p = nb (encV (dVersion s p e).v) ++ (nb s).drop q := by
  have hE : (pBool s (pNum s p e 1099511627776).2.1 (pNum s p e 1099511627776).2.2).2.2 = 0 := by
    unfold dVersion at h
    simp only at h
    split at h
    · exact h
    · unfold dPlain at h
      simp only at h
      exact (pNum_zero (dPieces_e0 _ _ _ (pText_zero h).1)).1
  obtain ⟨hn0, hb1, hb2⟩ := pBool_zero hE
  obtain ⟨he, n, n1, n2, n3, n4⟩ := pNum_form hn0
  unfold dVersion at h ⊢
  simp only at h ⊢
  rw [n1] at h hE hb1 hb2 ⊢
  simp only at h hE hb1 hb2 ⊢
  obtain ⟨_, b, c1, c2, c3, c4⟩ := pNum_form hb1
  rw [c1] at hb2
  rw [hb2] at h ⊢
  simp only at h ⊢
  refine ⟨he, ?_⟩
  by_cases hb : b = 1
  · subst hb
    rw [if_pos (by rfl)] at h ⊢
    refine ⟨_, rfl, c3, ?_⟩
    rw [encV, if_pos rfl, nb_app, n4, c4, List.append_assoc]
    rfl
  · have hb0 : b = 0 := by omega
    subst hb0
    rw [if_neg (by decide)] at h ⊢
    unfold dPlain at h ⊢
    simp only at h ⊢
    have hq := dPieces_e0 _ _ _ (pText_zero h).1
    obtain ⟨_, m, m1, m2, m3, m4⟩ := pNum_form hq
    rw [m1] at h ⊢
    simp only [Int.toNat_natCast] at h ⊢
    have hlen := (dPieces_ok s m ((p + (numS n).size + (numS 0).size + (numS m).size : Nat) : Int) 0).1
    obtain ⟨_, q, q1, q2, q3⟩ := dPieces_form m _ 0 m3 (pText_zero h).1
    generalize dPieces s m ((p + (numS n).size + (numS 0).size + (numS m).size : Nat) : Int) 0 = pp at *
    rw [q1] at h ⊢
    obtain ⟨_, t, t1, t2, t3, t4⟩ := pText_form h
    rw [t1]
    simp only
    refine ⟨_, rfl, t3, ?_⟩
    rw [encV, if_neg (by simp)]
    simp only
    rw [hlen, nb_app, nb_app, nb_app, nb_app, n4, c4, m4, q3, t4]
    simp only [List.append_assoc]
    rfl
theorem dVersion_e0 {s : ByteArray} {a e : Int} (h : (dVersion s a e).e = 0) : e = 0 := by
  unfold dVersion at h
  simp only at h
  split at h
  · exact (pNum_zero (pBool_zero h).1).1
  · unfold dPlain at h
    simp only at h
    exact (pNum_zero (pBool_zero (pNum_zero (dPieces_e0 _ _ _ (pText_zero h).1)).1).1).1
theorem dVersions_e0 {s : ByteArray} : ∀ (n : Nat) (a e : Int), (dVersions s n a e).2.2 = 0 → e = 0
  | 0, a, e, h => h
  | n + 1, a, e, h => by
    rw [dVersions] at h
    exact dVersion_e0 (dVersions_e0 n _ _ h)
theorem dVersions_form {s : ByteArray} : ∀ (n p : Nat) (e : Int), p ≤ s.size → (dVersions s n p e).2.2 = 0 → e = 0 ∧ ∃ q : Nat, (dVersions s n p e).2.1 = (q : Int) ∧ q ≤ s.size ∧ (nb s).drop p = nb (encL (dVersions s n p e).1) ++ (nb s).drop q
  | 0, p, e, hp, h => ⟨h, p, rfl, hp, by rw [dVersions, encL]; rfl⟩
  | n + 1, p, e, hp, h => by
    rw [dVersions] at h ⊢
    obtain ⟨he, q, q1, q2, q3⟩ := dVersion_form hp (dVersions_e0 n _ _ h)
    have e0 := dVersions_e0 n _ _ h
    rw [e0, q1] at h
    rw [e0, q1]
    obtain ⟨_, r, r1, r2, r3⟩ := dVersions_form n q 0 q2 h
    refine ⟨he, r, r1, r2, ?_⟩
    rw [encL, nb_app, q3, r3, List.append_assoc]
theorem back2 {s : ByteArray} (h : (decodeS s).2 = 0) : encodeS (decodeS s).1 = (s, 0) := by
  unfold decodeS at h ⊢
  simp only at h ⊢
  unfold finS at h ⊢
  split at h
  case isFalse => exact absurd h (by decide)
  rename_i hE
  rw [if_pos hE]
  split at h
  case isFalse => exact absurd h (by decide)
  rename_i hR
  rw [if_pos hR]
  unfold pEnd at hE
  split at hE
  case isFalse hz => exact absurd hE hz
  rename_i hz
  split at hE
  case isTrue => exact absurd hE (by decide)
  rename_i hA
  have h0 := dVersions_e0 _ _ _ hz
  obtain ⟨_, n, n1, n2, n3, n4⟩ := pNum_form (p := 0) h0
  rw [show pNum s 0 0 32 = _ from n1] at hz hA hR ⊢
  simp only [Int.toNat_natCast] at hz hA hR ⊢
  have hlen := (dVersions_ok s n ((0 + (numS n).size : Nat) : Int) 0).1
  obtain ⟨_, q, q1, q2, q3⟩ := dVersions_form n _ 0 n3 hz
  unfold encodeS
  rw [if_pos hR, hlen]
  congr 1
  apply nb_inj
  rw [nb_app]
  have e : nb s = (nb s).drop 0 := (List.drop_zero).symm
  have hd : (nb s).drop q = [] := List.drop_of_length_le (by rw [nb_len]; omega)
  rw [e, n4, q3, hd, List.append_nil]
theorem enc_sized {l : List S24} (h : (encodeS l).2 = 0) : rightS l = true ∧ (encodeS l).1 = numS l.length ++ encL l ∧ (encodeS l).1.size ≤ 140737488351232 := by
  unfold encodeS at h ⊢
  by_cases hR : rightS l = true
  · rw [if_pos hR]
    have z := szapp (numS_size l.length) (encL_size l (fun v hv => fine_of (right_mem hR hv)))
    have h32 := (right_at hR).1
    exact ⟨hR, rfl, by show (numS l.length ++ encL l).size ≤ _; omega⟩
  · rw [if_neg hR] at h; exact absurd h (by decide)
theorem back_j0 (s : ByteArray) (hs : s.size ≤ 140737488351232) : Ev (fun k => stowagelaw13_ChainBack.j0 k s) true := by
  have hD := decodeS_ok s
  have r1 : ∀ k, stowagelaw13_ChainBack.j0 (k + 1) s = _ := fun k => by rw [stowagelaw13_ChainBack.j0]
  refine Ev.step r1 (Ev.bind (decode_ev s hs) ?_)
  by_cases h0 : (decodeS s).2 = 0
  · refine Ev.congr (fun k => if_pos h0) (Ev.bind (encode_ev _ (by omega) hD.2) (Ev.bind awake_ev ?_))
    rw [back2 h0]
    refine Ev.congr (f := fun _ => some true) (fun k => ?_) (Ev.now _)
    rw [if_pos rfl, if_pos rfl, beq_self_eq_true]
  · refine Ev.congr (fun k => if_neg h0) (Ev.bind awake_ev ?_)
    have hn : (decodeS s).1 = [] := by
      unfold decodeS finS at h0 ⊢
      simp only at h0 ⊢
      split
      · rename_i h1
        rw [if_pos h1] at h0
        split
        · rename_i h2; rw [if_pos h2] at h0; exact absurd rfl h0
        · rfl
      · rfl
    rw [hn]
    exact Ev.congr (f := fun _ => some true) (fun k => rfl) (Ev.now _)
theorem back_ev (l : List S24) (s : ByteArray) (hl : l.length ≤ 2199023255550) (hok : ∀ v ∈ l, OkV v) (hs : s.size ≤ 140737488351232) : Ev (fun k => stowagelaw13_ChainBack.f k l s) true := by
  unfold stowagelaw13_ChainBack.f
  refine Ev.bind (encode_ev l (by omega) hok) ?_
  by_cases h0 : (encodeS l).2 = 0
  · obtain ⟨hR, e1, hz⟩ := enc_sized h0
    refine Ev.congr (fun k => if_pos h0) (Ev.bind (decode_ev _ hz) ?_)
    rw [e1, back1 hR]
    refine Ev.congr (fun k => if_pos rfl) (Ev.bind (refs_ev l (by omega) hok) (Ev.bind (refs_ev l (by omega) hok) (Ev.bind (alikeM_ev l (by omega) hok) ?_)))
    exact Ev.congr (fun k => if_pos rfl) (back_j0 s hs)
  · exact Ev.congr (fun k => if_neg h0) (back_j0 s hs)
end Go.Proofs.Ytmpnaaegahjfkaa.Q
namespace Go.Proofs.Ytmpnaaegahjfkaa.Walks
open Go.RowKit Go.Proofs.Ytmpnaaegahjfkaa.Q Go.Proofs.YtmpnaaegahjfkaaW.PrintWords Go.Proofs.YtmpnaaegahjfkaaW.PrintLast Go.Proofs.YtmpnaaegahjfkaaW.PrintMore
set_option linter.unusedVariables false
theorem ChainBack (W : World) (A0 : Option Addr) (c0 : Nat) (a0 : List S24) (l0 : a0.length ≤ c0) (C0 : Kd.C k24 W A0 a0.length a0) (g0 : (a0.length * 64 ≤ 140737488351232 ∧ ∀ y0 ∈ a0, ((Lit.int .i64 y0.f0).wf = true ∧ (True ∧ ((Lit.int .i64 y0.f2).wf = true ∧ (y0.f3.size ≤ 140737488351232 ∧ (y0.f4.length * 24 ≤ 140737488351232 ∧ ∀ y1 ∈ y0.f4, (y1.f0.size ≤ 140737488351232 ∧ (Lit.int .i64 y1.f1).wf = true)))))))) (a1 : ByteArray) (g1 : a1.size ≤ 140737488351232) :
    Calls Try.prog 8 #[.slice A0 a0.length c0, .string a1] W fun e w' => e = .returned (.bool true) ∧ Below W.heap.size W w' := by
  obtain ⟨k, hk⟩ := (back_ev a0 a1 (by have := g0.1; omega) (fun v hv => okV_of (g0.2 v hv)) g1).rounds
  exact stowagelaw13_ChainBack.calls k A0 c0 a0 a1 true W C0 l0 hk
end Go.Proofs.Ytmpnaaegahjfkaa.Walks