
/- Parts out of texts, and what the program answers of them: the law in plain Lean; parts.Join and parts.Put of such parts. -/
import Derived.Outline
import Derived.Deep.DeepCutAuto
import Derived.Test.YtpgbkeaaklglkaaGreatDoorX2
import Derived.Test.YtpgbkeaaklglkaaGreatDoorPk
import Derived.Test.YtpgbkeaaklglkaaGreatDoorPu
import Derived.Test.YtpgbkeaaklglkaaGreatDoorPo
namespace Go.Proofs.YtpgbkeaaklglkaaGreatDoor.Q
open Go.RowKit Go.Proofs.YtpgbkeaaklglkaaGreatDoorW.PrintWords Go.Proofs.YtpgbkeaaklglkaaGreatDoorW.PrintLast Go.Proofs.YtpgbkeaaklglkaaGreatDoorW.PrintMore
set_option linter.unusedVariables false
set_option linter.unusedSimpArgs false
set_option maxHeartbeats 10000000
set_option maxRecDepth 100000
/-! ### what the printed functions say of lists of parts -/
theorem own_l0 (l : List S38) (hl : l.length ≤ 1000) (hx : ∀ x ∈ l, x.f3.length ≤ 1000) : ∀ (d : Nat) (acc : List S38) (j k : Nat), j + d = l.length → d < k → acc.length ≤ j → parts_own.l0 k acc l (l.length : Int) (j : Int) = some (acc ++ l.drop j)
 | 0, acc, j, k + 1, hj, hk, ha => by
  unfold parts_own.l0
  rw [if_neg (by omega), List.drop_of_length_le (by omega), List.append_nil]
 | d + 1, acc, j, k + 1, hj, hk, ha => by
  have hlt : j < l.length := by omega
  unfold parts_own.l0
  have e : rd_T38 l (j : Int) = l[j] := by simp [rd_T38, hlt]
  rw [if_pos (by omega), if_pos (by omega), if_pos (by omega), e]
  unfold api_Piece.f
  rw [if_pos (by have := hx l[j] (List.getElem_mem _); omega), Option.bind_some, if_pos (by omega), IntWalk.wrap64_in _ (by omega)]
  have ih := own_l0 l hl hx d (acc ++ [l[j]]) (j + 1) k (by omega) (by omega) (by simp; omega)
  rw [List.append_assoc, List.singleton_append, ← List.drop_eq_getElem_cons hlt] at ih
  exact ih
theorem own_eq (l : List S38) (k : Nat) (hl : l.length ≤ 1000) (hx : ∀ x ∈ l, x.f3.length ≤ 1000) (hk : l.length < k) : parts_own.f k l = some l := by
 unfold parts_own.f
 have := own_l0 l hl hx l.length [] 0 k (by omega) hk (by simp)
 simpa using this
/-- a part that may be -/
structure MayP (k : Nat) (x : S38) : Prop where
 no : 1 ≤ x.f0 ∧ x.f0 ≤ 100
 pcs : chain_Pieces.f k x.f3 = some (x.f1, 0)
 sum : x.f2.size = 64 ∧ okHex x.f2
theorem check_eq {x : S38} {k : Nat} (h : MayP (k + 1) x) : parts_Check.f (k + 1) x.f0 x.f1 x.f2 x.f3 = some 0 := by
 unfold parts_Check.f
 rw [h.pcs, Option.bind_some, if_neg (by have := h.no; omega), if_neg (by have := h.no; omega), if_pos rfl, if_pos rfl]
 rw [parts_Check.j0, h.sum.1, if_neg (by decide)]
 unfold unhexQ.f
 rw [if_pos (by rw [h.sum.1]; decide), Option.bind_some, unhex_ok h.sum.2, if_pos rfl]
theorem right_l0 (l : List S38) (hl : l.length ≤ 1000) (hs : srt l) (k0 : Nat) (hm : ∀ x ∈ l, ∀ k, k0 ≤ k → MayP (k + 1) x) : ∀ (d j k : Nat), j + d = l.length → d + k0 + 1 < k → parts_right.l0 k l l (l.length : Int) (j : Int) = some true
 | 0, j, k + 1, hj, hk => by
  unfold parts_right.l0
  rw [if_neg (by omega)]
 | d + 1, j, k + 1, hj, hk => by
  have hlt : j < l.length := by omega
  unfold parts_right.l0
  have e : rd_T38 l (j : Int) = l[j] := by simp [rd_T38, hlt]
  obtain ⟨k1, rfl⟩ : ∃ k1, k = k1 + 1 := ⟨k - 1, by omega⟩
  rw [if_pos (by omega), if_pos (by omega), if_pos (by omega), e, check_eq (hm _ (List.getElem_mem _) k1 (by omega)), Option.bind_some, if_pos rfl]
  have ih := right_l0 l hl hs k0 hm d (j + 1) (k1 + 1) (by omega) (by omega)
  rw [IntWalk.wrap64_in _ (by omega), IntWalk.wrap64_in _ (by omega)]
  by_cases h0 : (j : Int) > 0
  ·have e2 : rd_T38 l ((j : Int) - 1) = l.getD (j - 1) z38 := by unfold rd_T38; rw [show ((j : Int) - 1).toNat = j - 1 by omega]
   have h3 := hs.2 (j - 1) j (by omega) hlt
   rw [show l.getD j z38 = l[j] by simp [hlt]] at h3
   rw [if_pos h0, if_pos (by omega), if_pos (by omega), e2, if_neg (by omega)]
   exact ih
  ·rw [if_neg h0]
   exact ih
/-! ### pieces of a text -/
theorem pcs_pos (w : Nat) (hw : 0 < w) : ∀ (d : Nat) (s : ByteArray), ∀ b ∈ pcs w d s, 0 < b.size
 | 0, _, b, h => by cases h
 | d + 1, s, b, h => by
  rw [pcs] at h
  split at h
  ·cases h
  ·rename_i h0
   rcases List.mem_cons.1 h with rfl | h
   ·rw [ByteArray.size_extract]; omega
   ·exact pcs_pos w hw d _ b h
theorem pieces_in (s : ByteArray) : ∀ b ∈ piecesS 4096 s, 0 < b.size ∧ b.size ≤ 4096 := fun b hb => ⟨pcs_pos 4096 (by decide) _ s b hb, pcs_size 4096 _ s b hb⟩
theorem sumS_cons (s : ByteArray) (l : List ByteArray) : sumS (s :: l) = s.size + sumS l := by unfold sumS; rw [List.map_cons, List.sum_cons]
theorem pieces_sum (s : ByteArray) : sumS (piecesS 4096 s) = s.size := by rw [← joinS_size, join_pieces 4096 (by decide)]
theorem pieces_len {s : ByteArray} (hs : s.size ≤ 20000) : (piecesS 4096 s).length ≤ 5 := by
 have := pcs_many 4096 (by decide) s.size s (Nat.le_refl _)
 unfold piecesS
 omega
/-! ### files: what is got behind what was put -/
theorem getF_put_ne {l : Fs} (h : Rises l) {a b : ByteArray} (hab : a ≠ b) (hb : hasF l b = true) (F : ByteArray) : getF (putF l a F) b = getF l b := by
 obtain ⟨p, hp, e⟩ := hasF_iff.1 hb
 subst e
 rw [getF_some h hp]
 exact getF_some (putF_rises a F h) (mem_putF.2 (Or.inr ⟨hp, fun e => hab e.symm⟩))
theorem hasF_put {l : Fs} (a b F : ByteArray) : hasF (putF l a F) b = true ↔ b = a ∨ hasF l b = true := by
 rw [hasF_iff, hasF_iff]
 constructor
 ·rintro ⟨p, hp, rfl⟩
  rcases mem_putF.1 hp with rfl | ⟨hp, _⟩
  ·exact Or.inl rfl
  ·exact Or.inr ⟨p, hp, rfl⟩
 ·rintro (rfl | ⟨p, hp, rfl⟩)
  ·exact ⟨(b, F), mem_putF.2 (Or.inl rfl), rfl⟩
  ·by_cases e : p.1 = a
   ·exact ⟨(a, F), mem_putF.2 (Or.inl rfl), e.symm⟩
   ·exact ⟨p, mem_putF.2 (Or.inr ⟨hp, e⟩), rfl⟩
theorem putX_rises {l : Fs} (h : Rises l) (s : ByteArray) : Rises (putX l s) := by
 unfold putX
 split
 ·exact h
 ·exact putF_rises _ _ h
theorem getX_put_same {l : Fs} (h : Rises l) {s : ByteArray} (h0 : 0 < s.size) (h1 : s.size ≤ 4096) (hh : hasX l (idS s) = false) : getX (putX l s) (idS s) = (s, 0) := by
 have e : putX l s = putF l (eId (idS s)) (laidS s) := by
  unfold putX
  rw [if_neg (by rw [hh]; rintro (h | h | h); omega; omega; cases h)]
 obtain ⟨r1, r2⟩ := right_laid s h0 h1
 have g : getF (putF l (eId (idS s)) (laidS s)) (eId (idS s)) = laidS s := getF_put h _ _
 rw [e]
 unfold getX
 rw [if_pos (idS_may s), if_pos ((hasF_put _ _ _).2 (Or.inl rfl)), g, if_pos r1, r2]
theorem getX_put_ne {l : Fs} (h : Rises l) {s id : ByteArray} (hne : id ≠ idS s) : getX (putX l s) id = getX l id := by
 unfold putX
 split
 ·rfl
 ·have hn : eId (idS s) ≠ eId id := fun e => hne (eId_inj e).symm
  unfold getX
  by_cases hm : mayS id = true
  ·rw [if_pos hm, if_pos hm]
   by_cases hf : hasF l (eId id) = true
   ·rw [if_pos hf, if_pos ((hasF_put _ _ _).2 (Or.inr hf)), getF_put_ne h hn hf]
   ·have hf2 : ¬ hasF (putF l (eId (idS s)) (laidS s)) (eId id) = true := fun h2 => ((hasF_put _ _ _).1 h2).elim (fun e => hn e.symm) hf
    rw [if_neg hf, if_neg hf2]
  ·rw [if_neg hm, if_neg hm]
theorem getX_put {l : Fs} (h : Rises l) {s : ByteArray} (h0 : 0 < s.size) (h1 : s.size ≤ 4096) (id : ByteArray) : getX (putX l s) id = if hasX l id = false ∧ id = idS s then (s, 0) else getX l id := by
 by_cases e : id = idS s
 ·subst e
  cases hh : hasX l (idS s) with
  | false => rw [if_pos ⟨rfl, rfl⟩, getX_put_same h h0 h1 hh]
  | true =>
   rw [if_neg (by simp)]
   unfold putX
   rw [if_pos (Or.inr (Or.inr hh))]
 ·rw [if_neg (fun h => e h.2), getX_put_ne h e]
theorem hasX_iff {l : Fs} {id : ByteArray} : hasX l id = true ↔ (getX l id).2 = 0 := by unfold hasX; exact decide_eq_true_iff
theorem hasX_put {l : Fs} (h : Rises l) {s : ByteArray} (h0 : 0 < s.size) (h1 : s.size ≤ 4096) {id : ByteArray} (hi : id = idS s ∨ hasX l id = true) : hasX (putX l s) id = true := by
 rw [hasX_iff, getX_put h h0 h1]
 by_cases hc : hasX l id = false ∧ id = idS s
 ·rw [if_pos hc]
 ·rw [if_neg hc]
  rcases hi with e | hi
  ·cases hh : hasX l id with
   | false => exact absurd ⟨hh, e⟩ hc
   | true => exact hasX_iff.1 hh
  ·exact hasX_iff.1 hi
/-- each extent that is there is one of P's -/
structure FI (P : ByteArray → Prop) (l : Fs) : Prop where
 ris : Rises l
 got : ∀ id, hasX l id = true → ∃ t, P t ∧ idS t = id ∧ getX l id = (t, 0)
theorem FI_nil (P : ByteArray → Prop) : FI P [] := ⟨List.Pairwise.nil, fun id h => by
 rw [hasX_iff] at h
 unfold getX at h
 split at h
 ·rw [if_neg (show ¬ hasF [] (eId id) = true by rw [hasF_iff]; rintro ⟨p, hp, _⟩; cases hp)] at h; exact absurd h (by decide)
 ·exact absurd h (by decide)⟩
theorem FI_put {P : ByteArray → Prop} {l : Fs} (h : FI P l) {s : ByteArray} (hP : P s) (h0 : 0 < s.size) (h1 : s.size ≤ 4096) : FI P (putX l s) := ⟨putX_rises h.ris s, fun id hh => by
 rw [getX_put h.ris h0 h1]
 by_cases hc : hasX l id = false ∧ id = idS s
 ·rw [if_pos hc]
  exact ⟨s, hP, hc.2.symm, rfl⟩
 ·rw [if_neg hc]
  refine h.got id ?_
  rw [hasX_iff, getX_put h.ris h0 h1, if_neg hc] at hh
  exact hasX_iff.2 hh⟩
theorem FI_fold {P : ByteArray → Prop} : ∀ {p : List ByteArray} {l : Fs}, FI P l → (∀ b ∈ p, P b ∧ 0 < b.size ∧ b.size ≤ 4096) → FI P (p.foldl putX l) ∧ (∀ id, hasX l id = true → hasX (p.foldl putX l) id = true) ∧ (∀ b ∈ p, hasX (p.foldl putX l) (idS b) = true)
 | [], l, h, _ => ⟨h, fun _ h => h, fun _ h => by cases h⟩
 | b :: p, l, h, hp => by
  obtain ⟨hP, h0, h1⟩ := hp b List.mem_cons_self
  obtain ⟨a1, a2, a3⟩ := FI_fold (p := p) (FI_put h hP h0 h1) (fun c hc => hp c (List.mem_cons_of_mem _ hc))
  refine ⟨a1, fun id hi => a2 id (hasX_put h.ris h0 h1 (Or.inr hi)), fun c hc => ?_⟩
  rcases List.mem_cons.1 hc with rfl | hc
  ·exact a2 _ (hasX_put h.ris h0 h1 (Or.inl rfl))
  ·exact a3 c hc
/-! ### what is read is what was put, or two unlike extents have one id -/
theorem readF_all {P : ByteArray → Prop} {F : Fs} (h : FI P F) (hinj : ∀ a b, P a → P b → idS a = idS b → a = b) : ∀ (bs : List ByteArray) (a : ByteArray), (∀ b ∈ bs, P b ∧ hasX F (idS b) = true) → readF F (bs.map pcS) a = (a ++ joinS bs, true)
 | [], a, _ => by
  have e : a ++ joinS [] = a := ba_inj (by rw [tl_app]; simp [joinS])
  rw [e]; rfl
 | b :: bs, a, hb => by
  obtain ⟨hP, hh⟩ := hb b List.mem_cons_self
  obtain ⟨t, ht, e, g⟩ := h.got _ hh
  obtain rfl := hinj t b ht hP e
  have e2 : a ++ joinS (t :: bs) = (a ++ t) ++ joinS bs := ba_inj (by rw [tl_app, tl_app, tl_app, joinS_list, joinS_list, List.flatMap_cons, List.append_assoc])
  rw [List.map_cons, readF, show (pcS t).f0 = idS t from rfl, g, if_neg (by rintro (h | h); exact h rfl; exact h rfl), readF_all h hinj bs _ (fun c hc => hb c (List.mem_cons_of_mem _ hc)), e2]
open Classical in
noncomputable def oddQ : List ByteArray → List ByteArray → Bool
 | _, [] => false
 | acc, b :: r => if ∃ a ∈ acc, idS a = idS b ∧ a ≠ b then true else oddQ (acc ++ [b]) r
theorem oddQ_no : ∀ (r acc : List ByteArray), oddQ acc r = false → (∀ a b, a ∈ acc → b ∈ acc → idS a = idS b → a = b) → ∀ a b, a ∈ acc ++ r → b ∈ acc ++ r → idS a = idS b → a = b
 | [], acc, _, h => by simpa using h
 | c :: r, acc, ho, h => by
  unfold oddQ at ho
  by_cases hc : ∃ a ∈ acc, idS a = idS c ∧ a ≠ c
  ·rw [if_pos hc] at ho; cases ho
  ·rw [if_neg hc] at ho
   have hn : ∀ a ∈ acc, idS a = idS c → a = c := fun a ha e => Classical.byContradiction fun hne => hc ⟨a, ha, e, hne⟩
   have ih := oddQ_no r (acc ++ [c]) ho (fun a b ha hb e => by
    rcases List.mem_append.1 ha with ha | ha <;> rcases List.mem_append.1 hb with hb | hb
    ·exact h a b ha hb e
    ·rw [List.mem_singleton.1 hb] at e ⊢; exact hn a ha e
    ·rw [List.mem_singleton.1 ha] at e ⊢; exact (hn b hb e.symm).symm
    ·rw [List.mem_singleton.1 ha, List.mem_singleton.1 hb])
   rw [List.append_assoc] at ih
   exact ih
theorem join_all (l : List ByteArray) : joinS (l.flatMap (piecesS 4096)) = joinS l := ba_inj (by
 rw [joinS_list, joinS_list, List.flatMap_assoc]
 congr 1
 funext s
 have := join_pieces 4096 (by decide) s
 rw [← joinS_list, this])
theorem read_or_odd {l : List ByteArray} {F : Fs} (h : FI (· ∈ l.flatMap (piecesS 4096)) F) (hh : ∀ b ∈ l.flatMap (piecesS 4096), hasX F (idS b) = true) : readF F ((l.flatMap (piecesS 4096)).map pcS) ⟨#[]⟩ = (joinS l, true) ∨ oddQ [] (l.flatMap (piecesS 4096)) = true := by
 cases ho : oddQ [] (l.flatMap (piecesS 4096)) with
 | true => exact Or.inr rfl
 | false =>
  have hi := oddQ_no _ [] ho (fun a b ha => by cases ha)
  have := readF_all h (fun a b ha hb e => hi a b (by simpa using ha) (by simpa using hb) e) (l.flatMap (piecesS 4096)) ⟨#[]⟩ (fun b hb => ⟨hb, hh b hb⟩)
  left
  rw [this, join_all]
  exact congrArg (fun a => (a, true)) (ba_inj (by rw [tl_app]; rfl))
/-! ### parts out of texts -/
noncomputable def partT (n : Int) (s : ByteArray) : S38 := ⟨n, (s.size : Int), hexF (sha s), (piecesS 4096 s).map pcS⟩
noncomputable def pickT (n : Int) (s : ByteArray) : S41 := ⟨n, hexF (sha s)⟩
noncomputable def partsR (n : Int) : List ByteArray → List S38
 | [] => []
 | s :: r => partT n s :: partsR (n + 1) r
noncomputable def picksR (n : Int) : List ByteArray → List S41
 | [] => []
 | s :: r => pickT n s :: picksR (n + 1) r
theorem partsR_len : ∀ (l : List ByteArray) (n : Int), (partsR n l).length = l.length
 | [], _ => rfl
 | s :: r, n => by rw [partsR, List.length_cons, List.length_cons, partsR_len r]
theorem picksR_len : ∀ (l : List ByteArray) (n : Int), (picksR n l).length = l.length
 | [], _ => rfl
 | s :: r, n => by rw [picksR, List.length_cons, List.length_cons, picksR_len r]
theorem partsR_get : ∀ (l : List ByteArray) (n : Int) (j : Nat) (h : j < l.length), (partsR n l).getD j z38 = partT (n + j) l[j]
 | s :: r, n, 0, h => by simp [partsR]
 | s :: r, n, j + 1, h => by
  rw [partsR, List.getD_cons_succ, partsR_get r (n + 1) j (by simpa using h)]
  rw [show n + 1 + (j : Int) = n + ((j + 1 : Nat) : Int) by omega]
  rfl
theorem picksR_get : ∀ (l : List ByteArray) (n : Int) (j : Nat) (h : j < l.length), (picksR n l).getD j z41 = pickT (n + j) l[j]
 | s :: r, n, 0, h => by simp [picksR]
 | s :: r, n, j + 1, h => by
  rw [picksR, List.getD_cons_succ, picksR_get r (n + 1) j (by simpa using h)]
  rw [show n + 1 + (j : Int) = n + ((j + 1 : Nat) : Int) by omega]
  rfl
theorem partsR_mem {l : List ByteArray} {n : Int} {x : S38} (h : x ∈ partsR n l) : ∃ (j : Nat) (hj : j < l.length), x = partT (n + j) l[j] := by
 obtain ⟨j, hj, rfl⟩ := List.getElem_of_mem h
 have hj2 : j < l.length := by rw [partsR_len] at hj; exact hj
 refine ⟨j, hj2, ?_⟩
 rw [← partsR_get l n j hj2, List.getD_eq_getElem?_getD, List.getElem?_eq_getElem hj, Option.getD_some]
theorem picksR_snoc : ∀ (l : List ByteArray) (n : Int) (s : ByteArray), picksR n (l ++ [s]) = picksR n l ++ [pickT (n + l.length) s]
 | [], n, s => by simp [picksR]
 | t :: r, n, s => by
  rw [List.cons_append, picksR, picksR_snoc r, picksR, List.cons_append, List.length_cons, show n + 1 + (r.length : Int) = n + ((r.length + 1 : Nat) : Int) by omega]
theorem partsR_set {l : List ByteArray} {n : Int} {j : Nat} (h : j < l.length) : (partsR n l).set j (partT (n + j) l[j]) = partsR n l := by
 have hj : j < (partsR n l).length := by rw [partsR_len]; exact h
 have e : partT (n + j) l[j] = (partsR n l)[j] := by rw [← partsR_get l n j h, List.getD_eq_getElem?_getD, List.getElem?_eq_getElem hj, Option.getD_some]
 rw [e, List.set_getElem_self]
theorem partsR_srt {l : List ByteArray} {n : Int} (h1 : 1 ≤ n) (h2 : n + l.length ≤ 101) : srt (partsR n l) := by
 refine ⟨fun x hx => ?_, fun a b hab hb => ?_⟩
 ·obtain ⟨j, hj, rfl⟩ := partsR_mem hx
  show 1 ≤ n + (j : Int) ∧ n + (j : Int) ≤ 100
  omega
 ·rw [partsR_len] at hb
  rw [partsR_get l n a (by omega), partsR_get l n b hb]
  show n + (a : Int) < n + (b : Int)
  omega
theorem findI_parts (l : List ByteArray) (n : Int) (j : Nat) (h : j ≤ l.length) : findI (partsR n l) (n + j) = j := by
 unfold findI
 refine count_edge z38 _ _ j (by rw [partsR_len]; exact h) (fun t ht => ?_) (fun t h1 h2 => ?_)
 ·rw [partsR_get l n t (by omega)]
  exact decide_eq_true (show n + (t : Int) < n + (j : Int) by omega)
 ·rw [partsR_len] at h2
  rw [partsR_get l n t h2]
  exact decide_eq_false (show ¬ n + (t : Int) < n + (j : Int) by omega)
theorem find_at {l : List ByteArray} {n : Int} (h1 : 1 ≤ n) (h2 : n + l.length ≤ 101) {j : Nat} (h : j < l.length) : parts_find.f (partsR n l) (n + j) = some ((j : Int), true) := by
 unfold parts_find.f
 have e := findI_parts l n j (Nat.le_of_lt h)
 rw [if_pos ⟨partsR_srt h1 h2, by omega, by omega, by rw [partsR_len]; omega⟩]
 unfold findB
 rw [e, partsR_len, decide_eq_true h, partsR_get l n j h, decide_eq_true (show (partT (n + j) l[j]).f0 = n + j from rfl)]
 rfl
theorem find_new {l : List ByteArray} {n : Int} (h1 : 1 ≤ n) (h2 : n + 1 + l.length ≤ 101) : parts_find.f (partsR (n + 1) l) n = some (((0 : Nat) : Int), false) := by
 unfold parts_find.f
 have e : findI (partsR (n + 1) l) n = 0 := by
  unfold findI
  refine count_edge z38 _ _ 0 (Nat.zero_le _) (fun t ht => by omega) (fun t _ h2 => ?_)
  rw [partsR_len] at h2
  rw [partsR_get l _ t h2]
  exact decide_eq_false (show ¬ n + 1 + (t : Int) < n by omega)
 rw [if_pos ⟨partsR_srt (by omega) h2, by omega, by omega, by rw [partsR_len]; omega⟩]
 unfold findB
 rw [e]
 by_cases h0 : 0 < l.length
 ·rw [partsR_get l _ 0 h0, decide_eq_false (show ¬ (partT (n + 1 + (0 : Nat)) l[0]).f0 = n from show ¬ n + 1 + ((0 : Nat) : Int) = n by omega), Bool.and_false]
 ·rw [partsR_len, decide_eq_false h0, Bool.false_and]
/-! ### parts that may be -/
theorem digits_l0 (s : ByteArray) (hs : s.size ≤ 1000000) (h : ∀ j, j < s.size → isD (bt s (j : Int)) = true) : ∀ (d j k : Nat), j + d = s.size → d < k → chain_digits.l0 k s (s.size : Int) (j : Int) = some ((s.size : Int) == 64)
 | 0, j, k, hj, hk => by
  obtain ⟨k, rfl⟩ : ∃ m, k = m + 1 := ⟨k - 1, by omega⟩
  unfold chain_digits.l0
  rw [if_neg (by omega)]
 | d + 1, j, k, hj, hk => by
  obtain ⟨k, rfl⟩ : ∃ m, k = m + 1 := ⟨k - 1, by omega⟩
  have hb := h j (by omega)
  unfold isD at hb
  simp only [Bool.or_eq_true, Bool.and_eq_true, decide_eq_true_iff] at hb
  have ih := digits_l0 s hs h d (j + 1) k (by omega) (by omega)
  unfold chain_digits.l0
  rw [if_pos (by omega), if_pos (by omega), if_pos (by omega), IntWalk.wrap64_in _ (by omega), show (j : Int) + 1 = ((j + 1 : Nat) : Int) by omega]
  rcases hb with ⟨h1, h2⟩ | ⟨h1, h2⟩
  ·rw [if_neg (by omega), if_neg (by omega)]; exact ih
  ·rw [if_neg (by omega), if_pos (by omega), if_neg (by omega), if_neg (by omega)]; exact ih
theorem digits_eq {s : ByteArray} (h : okHex s) (hs : s.size = 64) (k : Nat) (hk : 64 < k) : chain_digits.f k s = some true := by
 unfold chain_digits.f
 have := digits_l0 s (by omega) h.2 s.size 0 k (by omega) (by omega)
 rw [show ((0 : Nat) : Int) = 0 from rfl] at this
 rw [this, hs]
 rfl
theorem pieces_l0 (p : List ByteArray) (hp : ∀ b ∈ p, 0 < b.size ∧ b.size ≤ 4096) (hl : p.length ≤ 512) : ∀ (d j : Nat) (x : Nat) (k : Nat), j + d = p.length → x + 4096 * d ≤ 4000000 → d + 100 < k → chain_Pieces.l0 k (x : Int) (p.map pcS) (p.length : Int) (j : Int) = some (((x + sumS (p.drop j) : Nat) : Int), 0)
 | 0, j, x, k, hj, hx, hk => by
  obtain ⟨k, rfl⟩ : ∃ m, k = m + 1 := ⟨k - 1, by omega⟩
  unfold chain_Pieces.l0
  rw [if_neg (by omega), List.drop_of_length_le (by omega)]
  rfl
 | d + 1, j, x, k, hj, hx, hk => by
  obtain ⟨k, rfl⟩ : ∃ m, k = m + 1 := ⟨k - 1, by omega⟩
  have hlt : j < p.length := by omega
  have e : rd_T65 (p.map pcS) (j : Int) = pcS p[j] := by simp [rd_T65, hlt]
  obtain ⟨g0, g1⟩ := hp p[j] (List.getElem_mem _)
  have ih := pieces_l0 p hp hl d (j + 1) (x + p[j].size) k (by omega) (by omega) (by omega)
  have e2 : sumS (p.drop j) = p[j].size + sumS (p.drop (j + 1)) := by rw [List.drop_eq_getElem_cons hlt, sumS_cons]
  unfold chain_Pieces.l0
  rw [if_pos (by omega), if_pos (by omega), List.length_map, if_pos (by omega), e, show (pcS p[j]).f0 = idS p[j] from rfl, show (pcS p[j]).f1 = (p[j].size : Int) from rfl, digits_eq (mayS_iff.1 (idS_may _)).1 (idS_size _) k (by omega), Option.bind_some, if_pos rfl, if_neg (by omega), if_neg (by omega), IntWalk.wrap64_in _ (by omega), IntWalk.wrap64_in _ (by omega), show (j : Int) + 1 = ((j + 1 : Nat) : Int) by omega, show (x : Int) + (p[j].size : Int) = ((x + p[j].size : Nat) : Int) by omega, ih, e2, Nat.add_assoc]
theorem pieces_eq {s : ByteArray} (hs : s.size ≤ 20000) (k : Nat) (hk : 200 < k) : chain_Pieces.f k ((piecesS 4096 s).map pcS) = some ((s.size : Int), 0) := by
 have hl := pieces_len hs
 have := pieces_l0 (piecesS 4096 s) (pieces_in s) (by omega) (piecesS 4096 s).length 0 0 k (by omega) (by omega) (by omega)
 unfold chain_Pieces.f
 rw [List.length_map, if_neg (by omega)]
 rw [show ((0 : Nat) : Int) = 0 from rfl, List.drop_zero, pieces_sum] at this
 rw [this, Nat.zero_add]
theorem partT_may {s : ByteArray} (hs : s.size ≤ 20000) {n : Int} (hn : 1 ≤ n ∧ n ≤ 100) {k : Nat} (hk : 200 < k) : MayP k (partT n s) :=
 ⟨hn, pieces_eq hs k hk, by show (hexF (sha s)).size = 64; rw [hex_size, sha_size], hex_ok _⟩
theorem partT_check {s : ByteArray} (hs : s.size ≤ 20000) {n : Int} (hn : 1 ≤ n ∧ n ≤ 100) {k : Nat} (hk : 201 < k) : parts_Check.f k n (s.size : Int) (hexF (sha s)) ((piecesS 4096 s).map pcS) = some 0 := by
 obtain ⟨k, rfl⟩ : ∃ m, k = m + 1 := ⟨k - 1, by omega⟩
 exact check_eq (partT_may hs hn (by omega))
def AllSm (l : List ByteArray) : Prop := ∀ s ∈ l, s.size ≤ 20000
theorem parts_right_eq {l : List ByteArray} (hl : AllSm l) {n : Int} (h1 : 1 ≤ n) (h2 : n + l.length ≤ 101) {k : Nat} (hk : 1000 < k) : parts_right.f k (partsR n l) = some true := by
 have := right_l0 (partsR n l) (by rw [partsR_len]; omega) (partsR_srt h1 h2) 300 (fun x hx k hk => by
  obtain ⟨j, hj, rfl⟩ := partsR_mem hx
  exact partT_may (hl _ (List.getElem_mem _)) (by omega) (by omega)) (partsR n l).length 0 k (by omega) (by rw [partsR_len]; omega)
 exact this
theorem parts_own_eq {l : List ByteArray} (hl : AllSm l) {n : Int} (h2 : l.length ≤ 101) {k : Nat} (hk : 1000 < k) : parts_own.f k (partsR n l) = some (partsR n l) := by
 refine own_eq _ k (by rw [partsR_len]; omega) (fun x hx => ?_) (by rw [partsR_len]; omega)
 obtain ⟨j, hj, rfl⟩ := partsR_mem hx
 show ((piecesS 4096 l[j]).map pcS).length ≤ 1000
 have := pieces_len (hl _ (List.getElem_mem hj))
 rw [List.length_map]
 omega
/-! ### parts.Join of parts out of texts -/
theorem shaOf_len {xs : List Int} (hx : InB xs) (m : Int) : (shaOf xs m).length = 32 := by
 unfold shaOf
 rw [outs_len]
 have h := foldB_in (s := initS) (xs := xs ++ tailB xs.length m) ⟨rfl, initS_in⟩ (tailB_range hx) ((xs ++ tailB xs.length m).length / 64) (by omega)
 rw [h.1]
def smallU (l : List ByteArray) : Nat → Bool
 | 0 => false
 | j + 1 => smallU l j || (decide (j + 1 < l.length) && decide ((l.getD j ByteArray.empty).size < 64))
theorem smallU_step (l : List ByteArray) {j : Nat} (h : j < l.length) : smallU l (j + 1) = (smallU l j || (decide (j + 1 < l.length) && decide (l[j].size < 64))) := by
 rw [smallU, List.getD_eq_getElem?_getD, List.getElem?_eq_getElem h, Option.getD_some]
noncomputable def sumH (s : ByteArray) : ByteArray := hexF (sha s)
noncomputable def pcsT (s : ByteArray) : List S65 := (piecesS 4096 s).map pcS
noncomputable def joinH (l : List ByteArray) : ByteArray := hexF (strOfNums (shaOf (tagB 77 (l.map sumH)) (wr64 (tagB 77 (l.map sumH)).length)))
noncomputable def joinR (l : List ByteArray) : Int × Bool × Int × ByteArray × List S65 × Int :=
 if smallU l l.length = true then (0, false, 0, ⟨#[]⟩, [], 141) else (0, false, (sumS l : Int), joinH l, l.flatMap pcsT, 0)
theorem pcsT_len {l : List ByteArray} (hl : AllSm l) : (l.flatMap pcsT).length ≤ 5 * l.length := by
 induction l with
 | nil => simp
 | cons s r ih =>
  have h1 := pieces_len (hl s List.mem_cons_self)
  have h2 := ih (fun x hx => hl x (List.mem_cons_of_mem _ hx))
  have e : (pcsT s).length = (piecesS 4096 s).length := by unfold pcsT; rw [List.length_map]
  rw [List.flatMap_cons, List.length_append, List.length_cons]
  omega
theorem allSm_take {l : List ByteArray} (hl : AllSm l) (j : Nat) : AllSm (l.take j) := fun s hs => hl s (List.mem_of_mem_take hs)
theorem sumS_snoc (l : List ByteArray) (s : ByteArray) : sumS (l ++ [s]) = sumS l + s.size := by unfold sumS; rw [List.map_append, List.sum_append]; simp
theorem sumS_take (l : List ByteArray) (j : Nat) : sumS (l.take j) ≤ sumS l := by
 have : sumS l = sumS (l.take j) + sumS (l.drop j) := by unfold sumS; rw [← List.sum_append, ← List.map_append, List.take_append_drop]
 omega
/-! ### parts.Join, called with parts out of texts: the walk -/
theorem part_at {w : World} {A : Option Addr} {l : List ByteArray} (h : Kd.C k38 w A (partsR 1 l).length (partsR 1 l)) {j : Nat} (hj : j < l.length) : ∃ ad A3 c3, A = some ad ∧ w.cell? ⟨(ad.add (j * 4)).block, (ad.add (j * 4)).off + 1, none⟩ = some (.int .i64 (l[j].size : Int)) ∧ w.cell? ⟨(ad.add (j * 4)).block, (ad.add (j * 4)).off + 2, none⟩ = some (.string (sumH l[j])) ∧ w.cell? ⟨(ad.add (j * 4)).block, (ad.add (j * 4)).off + 3, none⟩ = some (.slice A3 (pcsT l[j]).length c3) ∧ Kd.C k65 w A3 (pcsT l[j]).length (pcsT l[j]) := by
 obtain ⟨ad, A3, c3, e, _, x1, x2, x3, _, x5⟩ := at_T38 h (j : Int) (by omega) (by rw [partsR_len]; omega)
 have e2 : rd_T38 (partsR 1 l) (j : Int) = partT (1 + j) l[j] := by unfold rd_T38; rw [Int.toNat_natCast]; exact partsR_get l 1 j hj
 rw [e2, Int.toNat_natCast] at x1 x2 x3
 rw [e2] at x5
 exact ⟨ad, A3, c3, e, x1, x2, x3, x5⟩
theorem pick_at {w : World} {A : Option Addr} {l : List ByteArray} (h : Kd.C k41 w A (picksR 1 l).length (picksR 1 l)) {j : Nat} (hj : j < l.length) : ∃ ad, A = some ad ∧ w.cell? (ad.add (j * 2)) = some (.int .i64 (1 + (j : Int))) ∧ w.cell? ⟨(ad.add (j * 2)).block, (ad.add (j * 2)).off + 1, none⟩ = some (.string (sumH l[j])) := by
 obtain ⟨ad, e, x0, x1⟩ := at_T41 h (j : Int) (by omega) (by rw [picksR_len]; omega)
 have e2 : rd_T41 (picksR 1 l) (j : Int) = pickT (1 + j) l[j] := by unfold rd_T41; rw [Int.toNat_natCast]; exact picksR_get l 1 j hj
 rw [e2, Int.toNat_natCast] at x0 x1
 exact ⟨ad, e, x0, x1⟩
theorem right_q {l : List ByteArray} (hl : AllSm l) (h12 : l.length ≤ 12) {q : Nat} (hq : q = l.length) {A : Option Addr} {c : Nat} {w : World} (hr : Kd.C k38 w A (partsR 1 l).length (partsR 1 l)) (hc : q ≤ c) :
  Calls Tryz.prog 20 #[.slice A q c] w fun e w' => e = .returned (.bool true) ∧ Below w.heap.size w w' := by
 have e : q = (partsR 1 l).length := by rw [partsR_len]; exact hq
 rw [e]
 rw [e] at hc
 exact parts_right.calls 2000 A c (partsR 1 l) true w hr hc (parts_right_eq hl (by decide) (by omega) (by decide))
theorem find_q {l : List ByteArray} (h12 : l.length ≤ 12) {q : Nat} (hq : q = l.length) {j : Nat} (hj : j < l.length) {A : Option Addr} {c : Nat} {w : World} (hr : Kd.C k38 w A (partsR 1 l).length (partsR 1 l)) (hc : q ≤ c) :
  Calls Tryz.prog 23 #[.slice A q c, .int .i64 (1 + (j : Int))] w fun e w' => e = .returned (.tuple #[.int .i64 (j : Int), .bool true]) ∧ Below w.heap.size w w' := by
 have e : q = (partsR 1 l).length := by rw [partsR_len]; exact hq
 rw [e]
 rw [e] at hc
 exact parts_find.calls A c (partsR 1 l) (1 + (j : Int)) (j : Int) true w hr hc (find_at (by decide) (by omega) hj)
/-- what lies in memory: the result's box b4, the version's box b7 (with vc for its pieces), the sums' row v8, the pieces' row vP -/
structure JS (w : World) (b4 b7 z : Nat) (n : Int) (h : ByteArray) (x8 : List ByteArray) (xP : List S65) (v8 vP vc : Value) (W : World) : Prop where
 k4 : W.heap[b4]? = some (.cells #[.int .i64 0, .bool false, .int .i64 0, .string ⟨#[]⟩, .slice none 0 0] 43 (0, 0))
 k7 : W.heap[b7]? = some (.cells #[.int .i64 0, .bool false, .int .i64 n, .string h, vc] 43 (0, 0))
 r8 : Kd.string.R 9 W w.heap.size (fun k => z ≤ k) v8 x8
 rP : k65.R 65 W w.heap.size (fun k => z ≤ k) vP xP
 bel : Below w.heap.size w W
 nb : (b4 < z ∧ b7 < z ∧ b4 ≠ b7) ∧ w.heap.size ≤ b4 ∧ w.heap.size ≤ b7
 sz : z ≤ W.heap.size
theorem JS.below {w : World} {b4 b7 z : Nat} {n : Int} {h : ByteArray} {x8 : List ByteArray} {xP : List S65} {v8 vP vc : Value} {W W2 : World} (J : JS w b4 b7 z n h x8 xP v8 vP vc W) (hb : Below W.heap.size W W2) : JS w b4 b7 z n h x8 xP v8 vP vc W2 :=
 ⟨blk_below J.k4 hb, blk_below J.k7 hb, Kd.R_below J.r8 hb, Kd.R_below J.rP hb, below_step J.bel hb, J.nb, Nat.le_trans J.sz hb.size⟩
theorem JS.set {w : World} {b4 b7 z : Nat} {n n' : Int} {h h' : ByteArray} {x8 : List ByteArray} {xP : List S65} {v8 vP vc vc' : Value} {W : World} (J : JS w b4 b7 z n h x8 xP v8 vP vc W) (i : Nat) (u : Value) (e : (#[.int .i64 0, .bool false, .int .i64 n, .string h, vc] : Array Value).setIfInBounds i u = #[.int .i64 0, .bool false, .int .i64 n', .string h', vc']) : JS w b4 b7 z n' h' x8 xP v8 vP vc' (W.setCell ⟨b7, i, none⟩ u) :=
 ⟨blk_far J.k4 J.nb.1.2.2 u, blk_put J.k7 i u e, Kd.R_far J.r8 (fun k hk he => by have := J.nb.1.2.1; simp only at he; omega) u, Kd.R_far J.rP (fun k hk he => by have := J.nb.1.2.1; simp only at he; omega) u, below_set J.bel J.nb.2.2, J.nb, by simpa [World.setCell] using J.sz⟩
theorem JS.appP {w : World} {b4 b7 z : Nat} {n : Int} {h : ByteArray} {x8 : List ByteArray} {xP xQ : List S65} {v8 vP vc v1 : Value} {W W2 : World} (J : JS w b4 b7 z n h x8 xP v8 vP vc W) (hR : k65.R 65 W2 w.heap.size (fun k => z ≤ k) v1 xQ) (hb : Below w.heap.size w W2) (hg : W.grownBy W2 vP.ownBlock) : JS w b4 b7 z n h x8 xQ v8 v1 vc W2 :=
 ⟨blk_grown J.k4 hg (Kd.R_ne J.rP J.k4 (by decide)), blk_grown J.k7 hg (Kd.R_ne J.rP J.k7 (by decide)), Kd.R_over' J.r8 (Kd.R_typed J.rP) (by decide) hg, hR, hb, J.nb, Nat.le_trans J.sz hg.size⟩
theorem JS.app8 {w : World} {b4 b7 z : Nat} {n : Int} {h : ByteArray} {x8 x9 : List ByteArray} {xP : List S65} {v8 vP vc v1 : Value} {W W2 : World} (J : JS w b4 b7 z n h x8 xP v8 vP vc W) (hR : Kd.string.R 9 W2 w.heap.size (fun k => z ≤ k) v1 x9) (hb : Below w.heap.size w W2) (hg : W.grownBy W2 v8.ownBlock) : JS w b4 b7 z n h x9 xP v1 vP vc W2 :=
 ⟨blk_grown J.k4 hg (Kd.R_ne J.r8 J.k4 (by decide)), blk_grown J.k7 hg (Kd.R_ne J.r8 J.k7 (by decide)), hR, Kd.R_over' J.rP (Kd.R_typed J.r8) (by decide) hg, hb, J.nb, Nat.le_trans J.sz hg.size⟩
theorem one2 (a b : Value) (h1 : a.oneCell' = true) (h2 : b.oneCell' = true) : ∀ q ∈ [a, b], q.oneCell' = true := by
 intro q hq
 simp only [List.mem_cons, List.not_mem_nil, or_false] at hq
 rcases hq with rfl | rfl <;> assumption
theorem one5 (a b c d e : Value) (h1 : a.oneCell' = true) (h2 : b.oneCell' = true) (h3 : c.oneCell' = true) (h4 : d.oneCell' = true) (h5 : e.oneCell' = true) : ∀ q ∈ [a, b, c, d, e], q.oneCell' = true := by
 intro q hq
 simp only [List.mem_cons, List.not_mem_nil, or_false] at hq
 rcases hq with rfl | rfl | rfl | rfl | rfl <;> assumption
noncomputable def tagJ (l : List ByteArray) : ByteArray := strOfNums (shaOf (tagB 77 (l.map sumH)) (wr64 (tagB 77 (l.map sumH)).length))
theorem tagJ_calls {l X : List ByteArray} (hX : X = l.map sumH) {A : Option Addr} {c : Nat} {w : World} (hr : Kd.C Kd.string w A X.length X) (hc : X.length ≤ c) (hG : InG w) :
  Calls Tryz.prog 28 #[.int .u8 77, .slice A X.length c] w fun e w' => e = .returned (.string (tagJ l)) ∧ Below w.heap.size w w' := by
 subst hX
 exact digest_Tagged.calls 77 (by decide) A c (l.map sumH) w hr hG (fun s hs => by obtain ⟨t, _, rfl⟩ := List.mem_map.1 hs; show (hexF (sha t)).size ≤ _; rw [hex_size, sha_size]; decide)
theorem hexJ_calls (l : List ByteArray) (w : World) : Calls Tryz.prog 8 #[.string (tagJ l)] w fun e w' => e = .returned (.string (joinH l)) ∧ Below w.heap.size w w' := by
 unfold tagJ
 exact digest_Hex.calls _ w (by rw [strOfNums_size, shaOf_len (tagB_in (by decide) _)]; decide)
set_option maxHeartbeats 10000000 in
theorem joinT_calls {l : List ByteArray} (hl : AllSm l) (h0 : 0 < l.length) (h12 : l.length ≤ 12) (hs : sumS l ≤ 20000) {r1 : Int} {r2 : Bool} {r3 : Int} {r4 : ByteArray} {r5 : List S65} {r6 : Int} (hj : joinR l = (r1, r2, r3, r4, r5, r6)) (A0 : Option Addr) (c0 : Nat) (A1 : Option Addr) (c1 : Nat) (w : World) (hG : InG w) (hr0 : Kd.C k38 w A0 (partsR 1 l).length (partsR 1 l)) (hc0 : (partsR 1 l).length ≤ c0) (hr1 : Kd.C k41 w A1 (picksR 1 l).length (picksR 1 l)) (hc1 : (picksR 1 l).length ≤ c1) :
  Calls Tryz.prog 10 #[.slice A0 (partsR 1 l).length c0, .slice A1 (picksR 1 l).length c1] w fun e w' => ∃ v4_ : Value, e = .returned (.tuple #[.agg #[.int .i64 r1, .bool r2, .int .i64 r3, .string r4, v4_], .int .i64 r6]) ∧ Kd.R k65 65 w' w.heap.size (fun _ => True) v4_ r5 ∧ Below w.heap.size w w' := by
 have HR0 := Aside0.mk hr0
 have HR1 := Aside0.mk hr1
 have HL := Aside0.mk hl
 have HS := Aside0.mk hs
 have H12 := Aside0.mk h12
 have HJ := Aside0.mk hj
 have GG := Aside0.mk hG
 obtain ⟨q, hq⟩ : ∃ q, q = l.length := ⟨_, rfl⟩
 rw [partsR_len, ← hq] at hc0 ⊢
 rw [picksR_len, ← hq] at hc1 ⊢
 have HC0 := Aside0.mk hc0
 have HC1 := Aside0.mk hc1
 have HQ := Aside0.mk hq
 have Q0 : Aside0 (0 < q ∧ q ≤ 12) := ⟨by omega⟩
 have hq12 : q ≤ 12 := Q0.out.2
 have qz : (q = 0) = False := eq_false (by omega)
 have qz1 : ((q : Int) = 0) = False := eq_false (by omega)
 have qz2 : ((q : Int) == 0) = false := beq_eq_false_iff_ne.2 (by omega)
 clear hr0 hr1 hl hs h12 hj hG hq hc0 hc1 h0
 go_enter Tryz.func10, Tryz.ntmps10
 go_wp2_with ((with_reducible refine gate_dst (N := 4) rfl ?_); refine box_event ?hg (N := 4) ?hd (cs := #[.int .i64 0, .bool false, .int .i64 0, .string ⟨#[]⟩, .slice none 0 0]) (t := 43) ?hr ?_; (case hd => rfl); (case hg => rfl); (case hr => first | (go_simp; done) | (go_simp; rfl)); intro b4 hg4 w1 hbox hb; have B1 := Aside0.mk hb; have G4 := Aside0.mk (Nat.le_of_eq hg4.symm); have K1 := Aside0.mk hbox; clear hbox hg4 hb)
 refine (right_q HL.out H12.out HQ.out (Kd.C_below HR0.out B1.out) HC0.out).mono ?_
 rintro e w2 ⟨rfl, hb⟩
 have B2 := Aside0.mk (below_step B1.out hb)
 have K2 := Aside0.mk (blk_below K1.out hb)
 clear hb K1 B1
 go_wp2_with (fail)
 go_loopg [6] q (fun kq v6 wr => ∃ j : Nat, v6 = .int .i64 (j : Int) ∧ Aside0 (j + kq = q + 1 ∧ 1 ≤ j ∧ j ≤ q) ∧ Aside0 (wr.heap[b4]? = some (.cells #[.int .i64 0, .bool false, .int .i64 0, .string ⟨#[]⟩, .slice none 0 0] 43 (0, 0))) ∧ Aside0 (Below w.heap.size w wr))
 case atStart => exact ⟨1, rfl, ⟨by have := Q0.out; omega⟩, K2, B2⟩
 case round =>
  clear K2 B2
  obtain ⟨j, rfl, HJJ, K3, B3⟩ := hrel
  by_cases hjq : j < q
  ·have hlt : ((j : Int) < (q : Int)) = True := eq_true (by omega)
   have hd : decide ((j : Int) < (q : Int)) = true := decide_eq_true (by omega)
   have hj1 := HJJ.out.2.1
   obtain ⟨ad, e, x0, _⟩ := pick_at (Kd.C_below HR1.out B3.out) (j := j) (by have := HQ.out; omega)
   obtain ⟨ad', e', y0, _⟩ := pick_at (Kd.C_below HR1.out B3.out) (j := j - 1) (by have := HQ.out; omega)
   subst e
   injection e' with e'
   subst e'
   obtain ⟨ji, hji⟩ : ∃ ji, ji = j - 1 := ⟨_, rfl⟩
   have i1 : ((ji : Int) < (q : Int)) = True := eq_true (by omega)
   have i3 : decide ((ji : Int) < (q : Int)) = true := decide_eq_true (by omega)
   have i2 : IntKind.i64.wrap ((j : Int) - 1) = (ji : Int) := (i64_w _).trans ((IntWalk.wrap64_in _ (by omega)).trans (by omega))
   rw [← hji] at y0
   have le1 : (1 + (j : Int) ≤ 1 + (ji : Int)) = False := eq_false (by omega)
   have le2 : decide (1 + (j : Int) ≤ 1 + (ji : Int)) = false := decide_eq_false (by omega)
   clear hji
   go_wp2_with (fail)
   go_region_held3 (fun w' => w'.cell? (ad.add (j * 2)) = some (.int .i64 (1 + (j : Int))) ∧ w'.cell? (ad.add (ji * 2)) = some (.int .i64 (1 + (ji : Int)))) (go_keep) (fail)
   all_goals (
    go_wp2_with (fail)
    go_roundg (gk - 1)
    case measure => have := HJJ.out; omega
    case rel => exact ⟨j + 1, by first | rfl | (rw [IntWalk.wrap64_in _ (by omega)]; rfl), ⟨by have := HJJ.out; omega⟩, K3, ⟨pw_below_drewN B3.out _⟩⟩)
  ·have hlt : ((j : Int) < (q : Int)) = False := eq_false (by omega)
   have hd : decide ((j : Int) < (q : Int)) = false := decide_eq_false (by omega)
   clear HJJ
   go_wp2_with ((with_reducible refine gate_dst (N := 7) rfl ?_); refine box_event ?hg (N := 7) ?hd (cs := #[.int .i64 0, .bool false, .int .i64 0, .string ⟨#[]⟩, .slice none 0 0]) (t := 43) ?hr ?_; (case hd => rfl); (case hg => rfl); (case hr => first | (go_simp; done) | (go_simp; rfl)); intro b7 hg7 w5 hbox hb; have HX := Aside0.mk (And.intro hbox (And.intro hb (Nat.le_of_eq hg7.symm))); clear hbox hg7 hb; refine Halt.out ?_)
   refine ⟨?_⟩
   have J5 : Aside0 (JS w b4 b7 w5.heap.size ((sumS (l.take 0) : Nat) : Int) ⟨#[]⟩ ((l.take 0).map sumH) ((l.take 0).flatMap pcsT) (.slice none 0 0) (.slice none 0 0) (.slice none 0 0) w5) := ⟨by
    have h1 := blk_lt K3.out
    have h2 := blk_lt HX.out.1
    have h3 := HX.out.2.2
    have h4 := B3.out.size
    exact ⟨blk_below K3.out HX.out.2.1, HX.out.1, Kd.R_nil _ _ _ _ _, Kd.R_nil _ _ _ _ _, below_step B3.out HX.out.2.1, ⟨⟨by have := HX.out.2.1.size; omega, h2, by omega⟩, G4.out, by omega⟩, Nat.le_refl _⟩⟩
   generalize w5.heap.size = z at J5
   clear HX K3 B3 hlt hd hjq
   go_wp2_with (fail)
   go_loopg [8, 9, 44] (q + 1) (fun kq v8 v9 v44 wr => ∃ j : Nat, v9 = .bool (smallU l j) ∧ v44 = .int .i64 (j : Int) ∧ Aside0 (j + kq = q + 1 ∧ j ≤ q) ∧ Aside0 (∃ vP, JS w b4 b7 z ((sumS (l.take j) : Nat) : Int) ⟨#[]⟩ ((l.take j).map sumH) ((l.take j).flatMap pcsT) v8 vP vP wr))
   case atStart => exact ⟨0, rfl, rfl, ⟨by omega, by omega⟩, ⟨_, J5.out⟩⟩
   case round =>
    clear J5
    obtain ⟨j, rfl, rfl, HJJ, HJ5⟩ := hrel
    obtain ⟨vP, J5⟩ := HJ5.out
    have JA := Aside0.mk J5
    clear HJ5 J5
    cases gk with
    | zero => have := HJJ.out; omega
    | succ k1 =>
    by_cases hjq : j < q
    ·have hlt : ((j : Int) < (q : Int)) = True := eq_true (by omega)
     have hd : decide ((j : Int) < (q : Int)) = true := decide_eq_true (by omega)
     have HJL : Aside0 (j < l.length) := ⟨by have := HQ.out; omega⟩
     obtain ⟨s, hs⟩ : ∃ s, s = l[j]'HJL.out := ⟨_, rfl⟩
     obtain ⟨hx, hhx⟩ : ∃ hx, hx = sumH s := ⟨_, rfl⟩
     obtain ⟨Q, hQ⟩ : ∃ Q, Q = pcsT s := ⟨_, rfl⟩
     obtain ⟨ad1, e, x0, x1⟩ := pick_at (Kd.C_below HR1.out JA.out.bel) HJL.out
     subst e
     obtain ⟨ad0, A3, c3, e, y1, y2, y3, y5⟩ := part_at HR0.out HJL.out
     subst e
     rw [← hs, ← hhx] at x1
     rw [← hs] at y1 y2 y3 y5
     rw [← hhx] at y2
     rw [← hQ] at y3 y5
     have PF := Aside0.mk (fun (W : World) (hb : Below w.heap.size w W) => And.intro ((hb.cell (World.block_lt_of_cell? w _ y1)).trans y1) (And.intro ((hb.cell (World.block_lt_of_cell? w _ y2)).trans y2) (And.intro ((hb.cell (World.block_lt_of_cell? w _ y3)).trans y3) (Kd.C_below y5 hb))))
     obtain ⟨n, hn⟩ : ∃ n, n = sumS (l.take j) := ⟨_, rfl⟩
     obtain ⟨X8, hX8⟩ : ∃ X8, X8 = (l.take j).map sumH := ⟨_, rfl⟩
     obtain ⟨XP, hXP⟩ : ∃ XP, XP = (l.take j).flatMap pcsT := ⟨_, rfl⟩
     rw [← hn, ← hX8, ← hXP] at JA
     have ht : l.take (j + 1) = l.take j ++ [s] := by rw [List.take_succ_eq_append_getElem HJL.out, hs]
     have EN : Aside0 (n + s.size = sumS (l.take (j + 1))) := ⟨by rw [ht, sumS_snoc, hn]⟩
     have E8 : Aside0 (X8 ++ [hx] = (l.take (j + 1)).map sumH) := ⟨by rw [ht, List.map_append, hX8, hhx]; rfl⟩
     have EP : Aside0 (XP ++ Q = (l.take (j + 1)).flatMap pcsT) := ⟨by rw [ht, List.flatMap_append, hXP, hQ]; simp⟩
     have ESM := Aside0.mk (smallU_step l HJL.out)
     rw [← hs, ← HQ.out] at ESM
     have hn2 : n + s.size ≤ 20000 := by have h1 := sumS_take l (j + 1); have h2 := HS.out; rw [← EN.out] at h1; omega
     have LQ : Aside0 (XP.length + Q.length ≤ 100 ∧ X8.length ≤ 100) := ⟨by
      have h1 := pcsT_len (allSm_take HL.out (j + 1))
      rw [← EP.out, List.length_append, List.length_take] at h1
      have h2 : X8.length ≤ l.length := by rw [hX8, List.length_map, List.length_take]; omega
      have := H12.out
      omega⟩
     obtain ⟨b, hb⟩ : ∃ b, b = smallU l j := ⟨_, rfl⟩
     rw [← hb] at ESM ⊢
     clear hs hhx hQ y1 y2 y3 y5 hn hX8 hXP ht hb
     go_wp2_with ((with_reducible refine gate_dst (N := 11) rfl ?_); refine box_event ?hg (N := 11) ?hd (cs := #[.int .i64 0, .string ⟨#[]⟩]) (t := 41) ?hr ?_; (case hd => rfl); (case hg => rfl); (case hr => first | (go_simp; done) | (go_simp; rfl)); intro b11 hg11 w5 hbox hb; have HX := Aside0.mk (And.intro hbox (And.intro hb (Nat.le_of_eq hg11.symm))); clear hbox hg11 hb; refine Halt.out ?_)
     refine ⟨?_⟩
     refine Kd.event_run (v := .int .i64 (j : Int)) (w1 := w5) rfl ?hr1 ?_
     case hr1 => first | (go_simp; done) | (go_simp; rfl)
     refine store4 rfl rfl 41 41 _ _ rfl (.agg #[.int .i64 (1 + (j : Int)), .string hx]) [.int .i64 (1 + (j : Int)), .string hx] rfl rfl rfl (by kernel_rfl) (one2 _ _ rfl rfl) HX.out.1 rfl ?_
     intro w6 hw6 hg6
     have hb6 : Below wr.heap.size wr w6 := HX.out.2.1.grown hg6 HX.out.2.1.size (fun k hk => by injection hk with hk; have := HX.out.2.2; omega)
     have J6 := Aside0.mk (JA.out.below hb6)
     have K11 := Aside0.mk hw6
     have hcz : w6.cell? ⟨b11, 0, none⟩ = some (.int .i64 (1 + (j : Int))) := (blk_cell hw6 0).trans rfl
     clear x0 x1 JA HX hw6 hg6 hb6
     go_wp2_with (fail)
     refine (find_q H12.out HQ.out HJL.out (Kd.C_below HR0.out J6.out.bel) HC0.out).mono ?_
     rintro e w7 ⟨rfl, hb⟩
     have J7 := Aside0.mk (J6.out.below hb)
     have e11 : w7.cell? ⟨b11, 1, none⟩ = some (.string hx) := (blk_cell (blk_below K11.out hb) 1).trans rfl
     clear hb hcz J6 K11
     have p2 := (PF.out w7 J7.out.bel).2.1
     have ne1 : (hx.toList != hx.toList) = false := by simp
     go_upto_region 15 with (fail)
     go_cut [67] (fun u67 wx => u67 = .bool false ∧ Aside0 (Below w7.heap.size w7 wx))
     case first =>
      go_quiet (fail)
      go_wp2_with (fail)
      go_meet
      case rel => exact ⟨rfl, ⟨pw_below_drewN (Below.refl _ _) _⟩⟩
     case rest =>
      obtain ⟨rfl, HW7⟩ := hcut
      have J8 := Aside0.mk (J7.out.below HW7.out)
      clear J7 HW7 p2 e11
      go_upto_region 17 with (fail)
      have k2 : wc.cell? ⟨b7, 2, none⟩ = some (.int .i64 (n : Int)) := (blk_cell J8.out.k7 2).trans rfl
      have p1 := (PF.out wc J8.out.bel).1
      refine start_ (n := 10) (S := fun w' => w'.cell? ⟨b7, 2, none⟩ = some (.int .i64 (n : Int)) ∧ w'.cell? ⟨(ad0.add (j * 4)).block, (ad0.add (j * 4)).off + 1, none⟩ = some (.int .i64 (s.size : Int))) (ds := [9]) #[false, false, false, false, false, false, false, false, false, false] (by kernel_rfl) rfl rfl ⟨k2, p1⟩ (fun hHeld => ?_)
      have J9 := Aside0.mk (J8.out.below (below_drew1 (Below.refl _ _)))
      generalize wc.drew = w9 at J9 hHeld ⊢
      clear J8 k2 p1
      refine pz 0 69 ?_
      refine pz 2 71 ?_
      refine pz 3 72 ?_
      refine pz 4 73 ?_
      refine pz 5 74 ?_
      refine tz 1 70 ?_
      refine tz 6 75 ?_
      refine pz 7 76 ?_
      refine pz 8 77 ?_
      refine last_ (i := 9) (N := none) #[true, true, true, true, true, true, true, true, true, true] rfl rfl (by kernel_rfl) (by decide) (fun K hK => ?_)
      have hs9 : w9.cell? ⟨b7, 2, none⟩ = some (.int .i64 (n : Int)) := (blk_cell J9.out.k7 2).trans rfl
      have hf9 := blk_frozen J9.out.k7 2
      have hwn : IntKind.i64.wrap ((n : Int) + (s.size : Int)) = (n : Int) + (s.size : Int) := (i64_w _).trans (IntWalk.wrap64_in _ (by omega))
      refine skip_ (w1 := w9.setCell ⟨b7, 2, none⟩ (.int .i64 ((n : Int) + (s.size : Int)))) (by rfl) rfl ?_ ?_
      ·first | (go_simp; done) | (go_simp; rfl)
      refine hK.out _ _ ?_
      clear hK K
      refine done_ (by kernel_rfl) ?_
      have J10 := Aside0.mk (J9.out.set 2 (.int .i64 ((n : Int) + (s.size : Int))) rfl)
      generalize w9.setCell ⟨b7, 2, none⟩ (.int .i64 ((n : Int) + (s.size : Int))) = w10 at J10 ⊢
      clear J9 hHeld hs9 hf9 hwn
      go_upto_region 18 with (fail)
      have k4 : w10.cell? ⟨b7, 4, none⟩ = some vP := (blk_cell J10.out.k7 4).trans rfl
      have p3 := (PF.out w10 J10.out.bel).2.2.1
      refine start_ (n := 10) (S := fun w' => w'.cell? ⟨b7, 4, none⟩ = some vP ∧ w'.cell? ⟨(ad0.add (j * 4)).block, (ad0.add (j * 4)).off + 3, none⟩ = some (.slice A3 Q.length c3)) (ds := [9]) #[false, false, false, false, false, false, false, false, false, false] (by kernel_rfl) rfl rfl ⟨k4, p3⟩ (fun hHeld => ?_)
      have J11 := Aside0.mk (J10.out.below (below_drew1 (Below.refl _ _)))
      generalize w10.drew = w11 at J11 hHeld ⊢
      clear J10 k4 p3
      refine pz 0 78 ?_
      refine pz 2 80 ?_
      refine pz 3 81 ?_
      refine pz 4 82 ?_
      refine pz 5 83 ?_
      refine tz 1 79 ?_
      refine tz 6 84 ?_
      refine one_ (i := 7) (N := some 85) #[true, true, true, true, true, true, true, true, false, false] rfl rfl (by kernel_rfl) (by decide) (fun K hK => ?_)
      refine Kd.R_append_rows_step k65 (w0 := w) w.heap.size (by rfl) (.tmp 79) (.tmp 84) 31 65 (.agg #[(.string ⟨#[]⟩), (.int .i64 0)]) 24 rfl Tryz.underlying31 info65 rfl (by decide) (by decide) vP XP Q _ _ _ (fun k => z ≤ k) (fun _ => False) rfl rfl J11.out.rP (PF.out w11 J11.out.bel).2.2.2 (fun _ _ h => h) (fun _ h => h.elim) (fun k hk => Nat.le_trans J11.out.sz hk) J11.out.bel (below_size J11.out.bel) (by have := LQ.out; omega) ?_
      intro v12 w12 ho hb hg hat
      obtain ⟨XQ, hXQ⟩ : ∃ XQ, XQ = XP ++ Q := ⟨_, rfl⟩
      rw [← hXQ] at ho EP
      obtain ⟨A12, c12, rfl⟩ := Kd.R_slice ho
      clear hXQ
      have J12 := Aside0.mk (J11.out.appP ho hb hg)
      clear ho hb hg hat J11
      refine hK.out _ _ ⟨(blk_cell J12.out.k7 4).trans rfl, (PF.out w12 J12.out.bel).2.2.1⟩ (fun hHeld => ?_)
      clear hK K
      refine nz 85 ?_
      refine pz 8 86 ?_
      refine last_ (i := 9) (N := none) #[true, true, true, true, true, true, true, true, true, true] rfl rfl (by kernel_rfl) (by decide) (fun K hK => ?_)
      have hs12 : w12.cell? ⟨b7, 4, none⟩ = some vP := (blk_cell J12.out.k7 4).trans rfl
      have hf12 := blk_frozen J12.out.k7 4
      refine skip_ (w1 := w12.setCell ⟨b7, 4, none⟩ (.slice A12 XQ.length c12)) (by rfl) rfl ?_ ?_
      ·first | (go_simp; done) | (go_simp; rfl)
      refine hK.out _ _ ?_
      clear hK K
      refine done_ (by kernel_rfl) ?_
      have J13 := Aside0.mk (J12.out.set 4 (.slice A12 XQ.length c12) rfl)
      generalize w12.setCell ⟨b7, 4, none⟩ (.slice A12 XQ.length c12) = w13 at J13 ⊢
      clear J12 hHeld hs12 hf12
      have p2 := (PF.out w13 J13.out.bel).2.1
      go_wp2_with ((with_reducible refine gate_dst (N := 93) rfl ?_); refine Halt.out ?_)
      refine ⟨?_⟩
      refine Kd.event_run (v := .slice (some ⟨w13.heap.size, 0, none⟩) 1 1) (w1 := w13.alloc (.cells #[.string hx] 9 (0, 0))) rfl ?hr1 ?_
      case hr1 => first | (go_simp; done) | (go_simp; rfl)
      obtain ⟨w14, hw14⟩ : ∃ w14, w14 = w13.alloc (.cells #[.string hx] 9 (0, 0)) := ⟨_, rfl⟩
      rw [← hw14]
      obtain ⟨gx, hgx⟩ : ∃ gx, gx = w13.heap.size := ⟨_, rfl⟩
      rw [← hgx]
      have hx14 : w14.heap[gx]? = some (.cells #[.string hx] 9 (0, 0)) := by rw [hw14, hgx]; exact blk_new w13 _
      have J14 := Aside0.mk (J13.out.below (show Below w13.heap.size w13 w14 by rw [hw14]; exact below_alloc (Below.refl _ _) _))
      have HX : Aside0 (ReadsRow (Kd.string.M w14 w.heap.size (fun _ => False)) Kd.string.sz w14 (some ⟨gx, 0, none⟩) 1 [hx]) := ⟨⟨rfl, by omega, fun _ => ⟨_, rfl, fun q y hq => by
       rcases q with _ | q
       ·simp only [List.getElem?_cons_zero, Option.some.injEq] at hq
        subst hq
        refine ⟨_, rfl, rfl, fun q u hu => ?_⟩
        rw [Nat.zero_mul, Nat.zero_add, Addr.add_lit, Nat.zero_add]
        simp only [World.cell?, hx14]
        rw [← Array.getElem?_toList]
        exact hu
       ·simp at hq⟩⟩⟩
      clear hw14 hgx hx14 p2 J13
      go_wp2_with ((with_reducible refine gate_dst (N := 94) rfl ?_); refine Halt.out ?_)
      refine ⟨?_⟩
      refine Kd.R_append_rows Kd.string (Rr := Kd.string.M w14 w.heap.size (fun _ => False)) (w0 := w) w.heap.size rfl (.tmp 87) (.tmp 93) 22 9 (.string ⟨#[]⟩) 16 rfl Tryz.underlying22 info9 rfl (by decide) (by decide) u8 X8 [hx] (some ⟨gx, 0, none⟩) 1 1 (fun k => z ≤ k) (fun _ => False) ?e1 ?e2 J14.out.r8 HX.out (fun _ _ h => h) (fun _ h => h.elim) (fun k hk => Nat.le_trans J14.out.sz hk) J14.out.bel (below_size J14.out.bel) (by have := LQ.out.2; omega) ?_
      case e1 => rfl
      case e2 => rfl
      intro v15 w15 hR hB hg _
      have J15 := Aside0.mk (J14.out.app8 hR hB hg)
      clear hR hB hg J14 HX
      have J16 : Aside0 (∃ vP, JS w b4 b7 z ((sumS (l.take (j + 1)) : Nat) : Int) ⟨#[]⟩ ((l.take (j + 1)).map sumH) ((l.take (j + 1)).flatMap pcsT) v15 vP vP w15) := ⟨by
       have h := J15.out
       rw [show (n : Int) + (s.size : Int) = ((n + s.size : Nat) : Int) by omega, EN.out, E8.out, EP.out] at h
       exact ⟨_, h⟩⟩
      have p1 := (PF.out w15 J15.out.bel).1
      clear J15
      have FIN := Aside0.mk (fun (b2 : Bool) (h : (b || (decide (j + 1 < q) && decide (s.size < 64))) = b2) => (show smallU l (j + 1) = b2 from ESM.out.trans h))
      have fin : ∀ {v9 : Value} {b2 : Bool}, v9 = .bool b2 → smallU l (j + 1) = b2 → v9 = .bool (smallU l (j + 1)) := fun h1 h2 => by rw [h1, h2]
      have FI2 := Aside0.mk @fin
      clear fin
      cases b with
      | true =>
       have NY := Aside0.mk (FIN.out true (by simp))
       go_wp2_with (fail)
       go_roundg k1
       case measure => have := HJJ.out; omega
       case rel => exact ⟨j + 1, FI2.out rfl NY.out, by first | rfl | (rw [IntWalk.wrap64_in _ (by omega)]; rfl), ⟨by have := HJJ.out; omega, by omega⟩, J16⟩
      | false =>
       by_cases h1 : j + 1 < q
       ·have t1 : ((j : Int) < (q : Int) - 1) = True := eq_true (by omega)
        have t2 : decide ((j : Int) < (q : Int) - 1) = true := decide_eq_true (by omega)
        by_cases h2 : s.size < 64
        ·have t3 : ((s.size : Int) < 64) = True := eq_true (by omega)
         have t4 : decide ((s.size : Int) < 64) = true := decide_eq_true (by omega)
         have NY := Aside0.mk (FIN.out true (by simp [h1, h2]))
         go_wp2_with (fail)
         go_roundg k1
         case measure => have := HJJ.out; omega
         case rel => exact ⟨j + 1, FI2.out rfl NY.out, by first | rfl | (rw [IntWalk.wrap64_in _ (by omega)]; rfl), ⟨by have := HJJ.out; omega, by omega⟩, J16⟩
        ·have t3 : ((s.size : Int) < 64) = False := eq_false (by omega)
         have t4 : decide ((s.size : Int) < 64) = false := decide_eq_false (by omega)
         have NY := Aside0.mk (FIN.out false (by simp [h1, h2]))
         go_wp2_with (fail)
         go_roundg k1
         case measure => have := HJJ.out; omega
         case rel => exact ⟨j + 1, FI2.out rfl NY.out, by first | rfl | (rw [IntWalk.wrap64_in _ (by omega)]; rfl), ⟨by have := HJJ.out; omega, by omega⟩, J16⟩
       ·have t1 : ((j : Int) < (q : Int) - 1) = False := eq_false (by omega)
        have t2 : decide ((j : Int) < (q : Int) - 1) = false := decide_eq_false (by omega)
        have NY := Aside0.mk (FIN.out false (by simp [h1]))
        go_wp2_with (fail)
        go_roundg k1
        case measure => have := HJJ.out; omega
        case rel => exact ⟨j + 1, FI2.out rfl NY.out, by first | rfl | (rw [IntWalk.wrap64_in _ (by omega)]; rfl), ⟨by have := HJJ.out; omega, by omega⟩, J16⟩
    ·have hlt : ((j : Int) < (q : Int)) = False := eq_false (by omega)
     have hd : decide ((j : Int) < (q : Int)) = false := decide_eq_false (by omega)
     have hjl : j = l.length := by have := HQ.out; have := HJJ.out; omega
     subst hjl
     rw [List.take_length] at JA
     obtain ⟨n, hn⟩ : ∃ n, n = sumS l := ⟨_, rfl⟩
     obtain ⟨X8, hX8⟩ : ∃ X8, X8 = l.map sumH := ⟨_, rfl⟩
     obtain ⟨XP, hXP⟩ : ∃ XP, XP = l.flatMap pcsT := ⟨_, rfl⟩
     have hn2 : n ≤ 20000 := by rw [hn]; exact HS.out
     have LP : XP.length ≤ 100 := by have h1 := pcsT_len HL.out; rw [← hXP] at h1; have := H12.out; omega
     have HJ2 := HJ.out
     unfold joinR at HJ2
     rw [← hn, ← hXP] at HJ2
     rw [← hn, ← hX8, ← hXP] at JA
     cases hsm : smallU l l.length with
     | true =>
      rw [if_pos hsm] at HJ2
      simp only [Prod.mk.injEq] at HJ2
      obtain ⟨rfl, rfl, rfl, rfl, rfl, rfl⟩ := HJ2
      clear hn hX8 hXP hsm
      go_wp2_with ((with_reducible refine gate_dst (N := 113) rfl ?_); refine Halt.out ?_)
      refine ⟨?_⟩
      refine Kd.event_run (v := .agg #[.int .i64 0, .bool false, .int .i64 0, .string ⟨#[]⟩, .slice none 0 0]) (w1 := wr) rfl ?hr1 ?_
      case hr1 => first | (go_simp; done) | (go_simp; rfl)
      refine store4 rfl rfl 43 43 _ _ rfl (.agg #[.int .i64 0, .bool false, .int .i64 0, .string ⟨#[]⟩, .slice none 0 0]) [.int .i64 0, .bool false, .int .i64 0, .string ⟨#[]⟩, .slice none 0 0] rfl rfl rfl (by kernel_rfl) (one5 _ _ _ _ _ rfl rfl rfl rfl rfl) JA.out.k4 rfl ?_
      intro w6 hw6 hg6
      have KF := Aside0.mk hw6
      have BF := Aside0.mk (JA.out.bel.grown hg6 JA.out.bel.size (fun k hk => by injection hk with hk; rw [← hk]; exact JA.out.nb.2.1))
      clear hw6 hg6
      go_wp2
      refine bodyPost_ret (results_ct rfl _ _ b4 43 #[.int .i64 0, .bool false, .int .i64 0, .string ⟨#[]⟩, .slice none 0 0] (0, 0) _ rfl KF.out Tryz.underlying43 rfl (by kernel_rfl)) rfl ?_
      exact ⟨_, rfl, Kd.R_nil _ _ _ _ _, BF.out⟩
     | false =>
      rw [if_neg (by rw [hsm]; simp)] at HJ2
      simp only [Prod.mk.injEq] at HJ2
      obtain ⟨rfl, rfl, rfl, rfl, rfl, rfl⟩ := HJ2
      have HX8 := Aside0.mk hX8
      clear hn hX8 hXP hsm
      obtain ⟨AP, cP, rfl⟩ := Kd.R_slice JA.out.rP
      obtain ⟨A8, c8, rfl, hl8, hC8⟩ := Kd.R_reads JA.out.r8
      have C8 := Aside0.mk (And.intro hC8 hl8)
      have k2 : wr.cell? ⟨b7, 2, none⟩ = some (.int .i64 (n : Int)) := (blk_cell JA.out.k7 2).trans rfl
      have k4 : wr.cell? ⟨b7, 4, none⟩ = some (.slice AP XP.length cP) := (blk_cell JA.out.k7 4).trans rfl
      have m1 : (1048576 < (n : Int)) = False := eq_false (by omega)
      have m2 : decide (1048576 < (n : Int)) = false := decide_eq_false (by omega)
      have m3 : (512 < (XP.length : Int)) = False := eq_false (by omega)
      have m4 : decide (512 < (XP.length : Int)) = false := decide_eq_false (by omega)
      clear hC8 hl8
      go_wp2_with (fail)
      refine (tagJ_calls HX8.out C8.out.1 C8.out.2 (GG.out.below JA.out.bel)).mono ?_
      rintro e w3 ⟨rfl, hb⟩
      have J3 := Aside0.mk (JA.out.below hb)
      clear hb k2 k4
      go_wp2_with (fail)
      refine (hexJ_calls l w3).mono ?_
      rintro e w4 ⟨rfl, hb⟩
      have J4 := Aside0.mk (J3.out.below hb)
      clear hb J3 C8 JA
      have hs4 : w4.cell? ⟨b7, 3, none⟩ = some (.string ⟨#[]⟩) := (blk_cell J4.out.k7 3).trans rfl
      have hf4 := blk_frozen J4.out.k7 3
      go_upto_region 27 with (fail)
      have J5 := Aside0.mk (J4.out.set 3 (.string (joinH l)) rfl)
      generalize w4.setCell ⟨b7, 3, none⟩ (.string (joinH l)) = w5 at J5 ⊢
      clear J4 hs4 hf4
      have f0 : w5.cell? ⟨b7, 0, none⟩ = some (.int .i64 0) := (blk_cell J5.out.k7 0).trans rfl
      have f1 : w5.cell? ⟨b7, 1, none⟩ = some (.bool false) := (blk_cell J5.out.k7 1).trans rfl
      have f2 : w5.cell? ⟨b7, 2, none⟩ = some (.int .i64 (n : Int)) := (blk_cell J5.out.k7 2).trans rfl
      have f3 : w5.cell? ⟨b7, 3, none⟩ = some (.string (joinH l)) := (blk_cell J5.out.k7 3).trans rfl
      have f4 : w5.cell? ⟨b7, 4, none⟩ = some (.slice AP XP.length cP) := (blk_cell J5.out.k7 4).trans rfl
      go_wp2_with ((with_reducible refine gate_dst (N := 128) rfl ?_); refine Halt.out ?_)
      refine ⟨?_⟩
      refine Kd.event_run (v := .agg #[.int .i64 0, .bool false, .int .i64 (n : Int), .string (joinH l), .slice AP XP.length cP]) (w1 := w5) rfl ?hr1 ?_
      case hr1 => first | (go_simp; done) | (go_simp; rfl)
      refine store4 rfl rfl 43 43 _ _ rfl (.agg #[.int .i64 0, .bool false, .int .i64 (n : Int), .string (joinH l), .slice AP XP.length cP]) [.int .i64 0, .bool false, .int .i64 (n : Int), .string (joinH l), .slice AP XP.length cP] rfl rfl rfl (by kernel_rfl) (one5 _ _ _ _ _ rfl rfl rfl rfl rfl) J5.out.k4 rfl ?_
      intro w6 hw6 hg6
      have KF := Aside0.mk hw6
      have BF := Aside0.mk (J5.out.bel.grown hg6 J5.out.bel.size (fun k hk => by injection hk with hk; rw [← hk]; exact J5.out.nb.2.1))
      have RF := Aside0.mk (Kd.R_mono (ok' := fun _ => True) (Kd.R_step J5.out.rP (fun k hk hlt => hg6.block k hlt (fun he => by injection he with he; have := J5.out.nb.1.1; omega))) (fun _ _ => trivial))
      clear hw6 hg6 f0 f1 f2 f3 f4
      go_wp2
      refine bodyPost_ret (results_ct rfl _ _ b4 43 #[.int .i64 0, .bool false, .int .i64 (n : Int), .string (joinH l), .slice AP XP.length cP] (0, 0) _ rfl KF.out Tryz.underlying43 rfl (by kernel_rfl)) rfl ?_
      exact ⟨_, rfl, RF.out, BF.out⟩
theorem eq_of_toList {a b : ByteArray} (h : a.toList = b.toList) : a = b := ba_inj (by rw [← ByteArray.toList_eq, ← ByteArray.toList_eq, h])
/-! ### odd: have two unlike extents one id -/
def restO (l : List ByteArray) (i : Nat) : List ByteArray := (l.drop i).flatMap (piecesS 4096)
theorem odd_all {l : List ByteArray} (hl : AllSm l) (h12 : l.length ≤ 12) : ∀ k : Nat,
  (∀ (i : Nat) (acc : List ByteArray), i ≤ l.length → acc.length + (restO l i).length ≤ 60 → 21000 + 100 * (restO l i).length + 2 * (l.length - i) < k → stowagetop_odd.l0 k l acc (acc.map idS) (i : Int) = some (oddQ acc (restO l i))) ∧
  (∀ (i q : Nat) (hi : i < l.length) (acc : List ByteArray), q ≤ (piecesS 4096 l[i]).length → acc.length + ((piecesS 4096 l[i]).drop q ++ restO l (i + 1)).length ≤ 60 → 21000 + 100 * ((piecesS 4096 l[i]).drop q ++ restO l (i + 1)).length + 2 * (l.length - i - 1) + 1 < k → stowagetop_odd.l1 k l acc (acc.map idS) (i : Int) (piecesS 4096 l[i]) (q : Int) = some (oddQ acc ((piecesS 4096 l[i]).drop q ++ restO l (i + 1)))) ∧
  (∀ (i q j : Nat) (hi : i < l.length) (hq : q < (piecesS 4096 l[i]).length) (acc : List ByteArray), j ≤ acc.length → (∀ a ∈ acc.take j, ¬ (idS a = idS (piecesS 4096 l[i])[q] ∧ a ≠ (piecesS 4096 l[i])[q])) → acc.length + 1 + ((piecesS 4096 l[i]).drop (q + 1) ++ restO l (i + 1)).length ≤ 60 → 21000 + 100 * ((piecesS 4096 l[i]).drop (q + 1) ++ restO l (i + 1)).length + 2 * (l.length - i - 1) + 1 + (acc.length - j) + 2 < k → stowagetop_odd.l2 k l acc (acc.map idS) (i : Int) (piecesS 4096 l[i]) (q : Int) (idS (piecesS 4096 l[i])[q]) (j : Int) = some (oddQ acc ((piecesS 4096 l[i])[q] :: ((piecesS 4096 l[i]).drop (q + 1) ++ restO l (i + 1)))))
 | 0 => ⟨fun i acc _ _ h => by omega, fun i q _ acc _ _ h => by omega, fun i q j _ _ acc _ _ _ h => by omega⟩
 | k + 1 => by
  obtain ⟨A, B, C⟩ := odd_all hl h12 k
  refine ⟨fun i acc hi hn hk => ?_, fun i q hi acc hq hn hk => ?_, fun i q j hi hq acc hj hno hn hk => ?_⟩
  ·unfold stowagetop_odd.l0
   by_cases h : i < l.length
   ·have e1 : rdOf ByteArray.empty l (i : Int) = l[i] := by simp [rdOf, h]
    have er : restO l i = (piecesS 4096 l[i]).drop 0 ++ restO l (i + 1) := by unfold restO; rw [List.drop_eq_getElem_cons h, List.flatMap_cons, List.drop_zero]
    have hs := hl _ (List.getElem_mem h)
    have ec : stowageref06_Cut.f k l[i] 4096 = some (piecesS 4096 l[i]) := ref_cut 4096 (by decide) _ (by omega) k (by omega)
    rw [if_pos (by omega), if_pos (by omega), e1, ec, Option.bind_some]
    rw [er] at hn hk ⊢
    have := B i 0 h acc (Nat.zero_le _) hn (by omega)
    exact this
   ·have er : restO l i = [] := by unfold restO; rw [List.drop_of_length_le (by omega)]; rfl
    rw [if_neg (by omega), er]
    rfl
  ·unfold stowagetop_odd.l1
   have hp := pieces_len (hl _ (List.getElem_mem hi))
   by_cases h : q < (piecesS 4096 l[i]).length
   ·have e1 : rdOf ByteArray.empty (piecesS 4096 l[i]) (q : Int) = (piecesS 4096 l[i])[q] := by simp [rdOf, h]
    have hb := pieces_in _ _ (List.getElem_mem h)
    rw [List.drop_eq_getElem_cons h, List.cons_append, List.length_cons] at hn hk
    rw [if_pos (by omega), if_pos (by omega), e1, ref_id _ (by omega) k (by omega), Option.bind_some, List.drop_eq_getElem_cons h, List.cons_append]
    exact C i q 0 hi h acc (Nat.zero_le _) (fun a ha => by simp at ha) (by omega) (by omega)
   ·have e1 : (piecesS 4096 l[i]).drop q = [] := List.drop_of_length_le (by omega)
    rw [e1, List.nil_append] at hn hk
    rw [if_neg (by omega), e1, List.nil_append, IntWalk.wrap64_in _ (by omega), show (i : Int) + 1 = ((i + 1 : Nat) : Int) by omega]
    exact A (i + 1) acc (by omega) hn (by omega)
  ·unfold stowagetop_odd.l2
   have hp := pieces_len (hl _ (List.getElem_mem hi))
   have e0 : rdOf ByteArray.empty (piecesS 4096 l[i]) (q : Int) = (piecesS 4096 l[i])[q] := by simp [rdOf, hq]
   by_cases h : j < acc.length
   ·have e1 : rdOf ByteArray.empty acc (j : Int) = acc[j] := by simp [rdOf, h]
    have e2 : rdOf ByteArray.empty (acc.map idS) (j : Int) = idS acc[j] := by simp [rdOf, h]
    have hnext : ¬ (idS acc[j] = idS (piecesS 4096 l[i])[q] ∧ acc[j] ≠ (piecesS 4096 l[i])[q]) → stowagetop_odd.l2 k l acc (acc.map idS) (i : Int) (piecesS 4096 l[i]) (q : Int) (idS (piecesS 4096 l[i])[q]) (wrap64 ((j : Int) + 1)) = some (oddQ acc ((piecesS 4096 l[i])[q] :: ((piecesS 4096 l[i]).drop (q + 1) ++ restO l (i + 1)))) := fun hne => by
     rw [IntWalk.wrap64_in _ (by omega), show (j : Int) + 1 = ((j + 1 : Nat) : Int) by omega]
     refine C i q (j + 1) hi hq acc h (fun a ha => ?_) hn (by omega)
     rw [List.take_succ_eq_append_getElem h] at ha
     rcases List.mem_append.1 ha with ha | ha
     ·exact hno a ha
     ·obtain rfl := List.mem_singleton.1 ha; exact hne
    rw [if_pos (by omega), if_pos (by omega), List.length_map, if_pos (by omega), e1, e2, e0]
    by_cases h1 : idS acc[j] = idS (piecesS 4096 l[i])[q]
    ·rw [if_pos (by rw [h1]), if_pos (by omega), if_pos (by omega)]
     by_cases h2 : acc[j] = (piecesS 4096 l[i])[q]
     ·rw [if_pos (by rw [h2])]
      exact hnext (fun h => h.2 h2)
     ·rw [if_neg (fun h => h2 (eq_of_toList h))]
      have hex : ∃ a ∈ acc, idS a = idS (piecesS 4096 l[i])[q] ∧ a ≠ (piecesS 4096 l[i])[q] := ⟨acc[j], List.getElem_mem h, h1, h2⟩
      unfold oddQ
      rw [if_pos hex]
    ·rw [if_neg (fun h => h1 (eq_of_toList h))]
     exact hnext (fun h => h1 h.1)
   ·have hall : ¬ ∃ a ∈ acc, idS a = idS (piecesS 4096 l[i])[q] ∧ a ≠ (piecesS 4096 l[i])[q] := by
     rintro ⟨a, ha, h1⟩
     exact hno a (by rw [List.take_of_length_le (by omega)]; exact ha) h1
    rw [if_neg (by omega), if_pos (by omega), if_pos (by omega), List.length_map, if_pos (by omega), if_pos (by omega), e0, IntWalk.wrap64_in _ (by omega), show (q : Int) + 1 = ((q + 1 : Nat) : Int) by omega]
    have := B i (q + 1) hi (acc ++ [(piecesS 4096 l[i])[q]]) (by omega) (by rw [List.length_append, List.length_singleton]; omega) (by omega)
    rw [List.map_append, List.map_singleton] at this
    unfold oddQ
    rw [if_neg hall]
    exact this
theorem restO_len {l : List ByteArray} (hl : AllSm l) : (restO l 0).length ≤ 5 * l.length := by
 have := pcsT_len hl
 have e : (l.flatMap pcsT).length = (restO l 0).length := by
  unfold restO
  rw [List.drop_zero, List.length_flatMap, List.length_flatMap]
  congr 1
  exact List.map_congr_left (fun s _ => by unfold pcsT; rw [List.length_map])
 omega
theorem odd_eq {l : List ByteArray} (hl : AllSm l) (h12 : l.length ≤ 12) {k : Nat} (hk : 40000 < k) : stowagetop_odd.f k l = some (oddQ [] (l.flatMap (piecesS 4096))) := by
 have h := restO_len hl
 have := (odd_all hl h12 k).1 0 [] (Nat.zero_le _) (by simp only [List.length_nil]; omega) (by omega)
 exact this
/-! ### parts.Put of a part out of a text -/
noncomputable def partsL (l : List ByteArray) (t : Nat) : List S38 := partsR (((l.length - t : Nat) : Int) + 1) (l.drop (l.length - t))
theorem partsL_all {l : List ByteArray} {t : Nat} (h : l.length ≤ t) : partsL l t = partsR 1 l := by
 unfold partsL
 rw [show l.length - t = 0 by omega, List.drop_zero]
 rfl
theorem partsL_len (l : List ByteArray) (t : Nat) : (partsL l t).length ≤ l.length := by
 unfold partsL
 rw [partsR_len, List.length_drop]
 omega
theorem allSm_drop {l : List ByteArray} (hl : AllSm l) (j : Nat) : AllSm (l.drop j) := fun s hs => hl s (List.mem_of_mem_drop hs)
theorem put_T {l : List ByteArray} (hl : AllSm l) (h12 : l.length ≤ 12) {t k : Nat} (hk : k < l.length) (hc : (t < l.length ∧ k + 1 + t = l.length) ∨ l.length ≤ t) {s : ByteArray} (hs : s = l[k]) {n z : Int} (hn : n = (k : Int) + 1) (hz : z = (s.size : Int))
  {A : Option Addr} {c : Nat} {w : World} (hr0 : Kd.C k38 w A (partsL l t).length (partsL l t)) (hc0 : (partsL l t).length ≤ c) {Ax : Option Addr} {cx : Nat} (hrx : Kd.C k65 w Ax (pcsT s).length (pcsT s)) (hcx : (pcsT s).length ≤ cx) :
  Calls Tryz.prog 7 #[.slice A (partsL l t).length c, .agg #[.int .i64 n, .int .i64 z, .string (sumH s), .slice Ax (pcsT s).length cx]] w fun e w' => ∃ v, e = .returned (.tuple #[v, .int .i64 0]) ∧ k38.R 38 w' w.heap.size (fun _ => True) v (partsL l (t + 1)) ∧ Below w.heap.size w w' := by
 have hsm : s.size ≤ 20000 := by rw [hs]; exact hl _ (List.getElem_mem hk)
 have hpl : (piecesS 4096 s).length ≤ 5 := pieces_len hsm
 have hd := allSm_drop hl (l.length - t)
 have hlen : (l.drop (l.length - t)).length ≤ 12 := by rw [List.length_drop]; omega
 have h1 : parts_right.f 3000 (partsL l t) = some true := parts_right_eq hd (by omega) (by rw [List.length_drop]; omega) (by omega)
 have h3 : parts_own.f 3000 (partsL l t) = some (partsL l t) := parts_own_eq hd (by omega) (by omega)
 have h2 : parts_Check.f 3000 n z (sumH s) (pcsT s) = some 0 := by rw [hz]; exact partT_check hsm (by omega) (by omega)
 have h4 : parts_own.f 3000 [⟨n, z, sumH s, pcsT s⟩] = some [(⟨n, z, sumH s, pcsT s⟩ : S38)] := own_eq _ _ (by simp) (fun x hx => by obtain rfl := List.mem_singleton.1 hx; show ((piecesS 4096 s).map pcS).length ≤ 1000; rw [List.length_map]; omega) (by simp)
 have hx : (⟨n, z, sumH s, pcsT s⟩ : S38) = partT ((k : Int) + 1) l[k] := by rw [hn, hz, hs]; rfl
 have h38 : (partsL l t).length ≤ 1000000 := by have := partsL_len l t; omega
 rcases hc with ⟨ht, hkt⟩ | ht
 ·have e1 : l.length - t = k + 1 := by omega
  have e2 : l.length - (t + 1) = k := by omega
  have h5 : parts_find.f (partsL l t) n = some (((0 : Nat) : Int), false) := by
   unfold partsL
   rw [e1, hn, show ((k + 1 : Nat) : Int) + 1 = ((k : Int) + 1) + 1 by omega]
   exact find_new (by omega) (by rw [List.length_drop]; omega)
  have hnew : partsL l (t + 1) = ⟨n, z, sumH s, pcsT s⟩ :: partsL l t := by
   rw [hx]
   unfold partsL
   rw [e1, e2, List.drop_eq_getElem_cons hk, partsR]
   rfl
  rw [hnew]
  exact put_calls 3000 A c (partsL l t) ⟨n, z, sumH s, pcsT s⟩ Ax cx w hr0 hc0 hrx hcx h38 h1 h2 h3 h4 0 false h5 (Or.inr ⟨rfl, rfl⟩)
 ·have eL := partsL_all ht
  have eL2 : partsL l (t + 1) = partsR 1 l := partsL_all (by omega)
  have h5 : parts_find.f (partsL l t) n = some (((k : Nat) : Int), true) := by
   rw [eL, hn, Int.add_comm]
   exact find_at (by omega) (by omega) hk
  have hset : (partsL l t).set k ⟨n, z, sumH s, pcsT s⟩ = partsL l (t + 1) := by
   rw [eL, eL2, hx, Int.add_comm]
   exact partsR_set hk
  rw [← hset]
  exact put_calls 3000 A c (partsL l t) ⟨n, z, sumH s, pcsT s⟩ Ax cx w hr0 hc0 hrx hcx h38 h1 h2 h3 h4 k true h5 (Or.inl ⟨rfl, by rw [eL, partsR_len]; exact hk⟩)
end Go.Proofs.YtpgbkeaaklglkaaGreatDoor.Q