
/- Names, ids, files in order, a disk that is idle. -/
import Derived.Test.YtpgbkeaaklglkaaGreatDoorDk2
import Derived.Test.YtpgbkeaaklglkaaGreatDoorDigits
namespace Go.Proofs.YtpgbkeaaklglkaaGreatDoor.Q
open Go.Maps Go.WideShapes Go.WideMaps Go.RowKit Go.Proofs.YtpgbkeaaklglkaaGreatDoorW.PrintWords Go.Proofs.YtpgbkeaaklglkaaGreatDoorW.PrintLast Go.Proofs.YtpgbkeaaklglkaaGreatDoorW.PrintMore
set_option linter.unusedVariables false
set_option linter.unusedSimpArgs false
set_option maxHeartbeats 10000000
set_option maxRecDepth 100000
/-! bytes as lists -/
theorem tl_app (a b : ByteArray) : (a ++ b).data.toList = a.data.toList ++ b.data.toList := by simp [ByteArray.data_append]
theorem tl_ext (s : ByteArray) (i j : Nat) : (s.extract i j).data.toList = (s.data.toList.drop i).take (j - i) := by simp [ByteArray.data_extract, List.extract_eq_take_drop]
theorem tl_len (s : ByteArray) : s.data.toList.length = s.size := by simp
theorem bt_list {s : ByteArray} {j : Nat} (h : j < s.data.toList.length) : bt s (j : Int) = ((s.data.toList[j]).toNat : Int) := by
 rw [tl_len] at h
 unfold bt
 rw [dif_pos (by rw [Int.toNat_natCast]; exact h)]
 simp
 rfl
theorem all_bt {s : ByteArray} {P : Int → Prop} : (∀ j, j < s.size → P (bt s (j : Int))) ↔ ∀ c ∈ s.data.toList, P (c.toNat : Int) := by
 constructor
 ·intro h c hc
  obtain ⟨j, hj, rfl⟩ := List.mem_iff_getElem.1 hc
  rw [← bt_list hj]
  exact h j (by rw [tl_len] at hj; exact hj)
 ·intro h j hj
  rw [bt_list (by rw [tl_len]; exact hj)]
  exact h _ (List.getElem_mem _)
theorem nameS_iff {s : ByteArray} : nameS s = true ↔ (∀ c ∈ s.data.toList, chN (c.toNat : Int) = true) ∧ 0 < s.size ∧ s.size ≤ 80 := by
 unfold nameS
 rw [Bool.and_eq_true, decide_eq_true_iff, List.all_eq_true, ← all_bt (P := fun c => chN c = true)]
 constructor
 ·rintro ⟨h, h2⟩
  exact ⟨fun j hj => h j (by rw [List.mem_range']; exact ⟨j, hj, by omega⟩), h2⟩
 ·rintro ⟨h, h2⟩
  refine ⟨fun j hj => h j ?_, h2⟩
  rw [List.mem_range'] at hj
  obtain ⟨k, hk, rfl⟩ := hj
  omega
/-! ids -/
noncomputable def mayS (id : ByteArray) : Bool := decide ((unhexF id).2 = 0 ∧ (unhexF id).1.size = 32)
theorem mayS_iff {id : ByteArray} : mayS id = true ↔ okHex id ∧ id.size = 64 := by
 unfold mayS
 rw [decide_eq_true_iff]
 by_cases h : okHex id
 ·rw [unhex_ok h]
  simp only [strOfNums_size, valsL_len]
  have := h.1
  constructor
  ·rintro ⟨_, h2⟩; exact ⟨h, by omega⟩
  ·rintro ⟨_, h2⟩; exact ⟨trivial, by omega⟩
 ·rw [unhex_bad h]
  constructor
  ·rintro ⟨h1, _⟩; exact absurd h1 (by decide)
  ·rintro ⟨h1, _⟩; exact absurd h1 h
theorem mayS_hex {t : ByteArray} (h : t.size = 32) : mayS (hexF t) = true := by
 unfold mayS
 rw [unhex_hex]
 simp [h]
theorem okHex_list {id : ByteArray} (h : okHex id) : ∀ c ∈ id.data.toList, isD (c.toNat : Int) = true := (all_bt (P := fun c => isD c = true)).1 h.2
theorem chN_isD {c : Int} (h : isD c = true) : chN c = true := by
 unfold isD at h
 unfold chN
 simp only [Bool.or_eq_true, Bool.and_eq_true, decide_eq_true_iff] at h ⊢
 omega
/-! names -/
abbrev nE : ByteArray := ⟨#[101, 46]⟩
abbrev nEN : ByteArray := ⟨#[101, 46, 110, 101, 119]⟩
theorem nEN_name : nameS nEN = true := by decide +kernel
theorem nE_size : nE.size = 2 := rfl
theorem eId_size (id : ByteArray) : (nE ++ id).size = 2 + id.size := by rw [ByteArray.size_append]; rfl
theorem may_name {id : ByteArray} (h : mayS id = true) : nameS (nE ++ id) = true := by
 obtain ⟨h1, h2⟩ := mayS_iff.1 h
 refine nameS_iff.2 ⟨fun c hc => ?_, ?_⟩
 ·rw [tl_app] at hc
  rcases List.mem_append.1 hc with hc | hc
  ·have : c = 101 ∨ c = 46 := by simpa using hc
   rcases this with rfl | rfl <;> decide
  ·exact chN_isD (okHex_list h1 c hc)
 ·rw [eId_size]; omega
theorem idX_e (id : ByteArray) : (nE ++ id).extract 2 (nE ++ id).size = id := by
 refine ba_inj ?_
 rw [tl_ext, tl_app, eId_size, List.drop_append_of_le_length (by decide)]
 simp only [Nat.add_sub_cancel_left]
 exact List.take_of_length_le (by rw [← tl_len id]; exact Nat.le_refl _)
theorem pre_e (id : ByteArray) : (nE ++ id).extract 0 2 = nE := by
 refine ba_inj ?_
 rw [tl_ext, tl_app]
 simp
theorem e_of {n : ByteArray} (h2 : 2 ≤ n.size) (h : n.extract 0 2 = nE) : n = nE ++ n.extract 2 n.size := by
 refine ba_inj ?_
 have h' := congrArg (fun s => s.data.toList) h
 have h' : (n.extract 0 2).data.toList = nE.data.toList := h'
 rw [tl_ext] at h'
 rw [tl_app, tl_ext, ← h', List.drop_zero, List.take_of_length_le (l := n.data.toList.drop 2) (by rw [List.length_drop, tl_len]; omega), List.take_append_drop]
theorem eId_inj {a b : ByteArray} (h : nE ++ a = nE ++ b) : a = b := by
 have h' := congrArg (fun s => s.data.toList) h
 simp only [tl_app] at h'
 exact ba_inj (List.append_cancel_left h')
noncomputable def isX (n : ByteArray) : Bool := decide (2 ≤ n.size) && sameN (n.extract 0 2) nE && mayS (n.extract 2 n.size)
abbrev idX (n : ByteArray) : ByteArray := n.extract 2 n.size
theorem isX_iff {n : ByteArray} : isX n = true ↔ ∃ id, mayS id = true ∧ n = nE ++ id := by
 unfold isX
 rw [Bool.and_eq_true, Bool.and_eq_true, decide_eq_true_iff, sameN_iff]
 constructor
 ·rintro ⟨⟨h1, h2⟩, h3⟩
  exact ⟨_, h3, e_of h1 h2⟩
 ·rintro ⟨id, h1, rfl⟩
  exact ⟨⟨by rw [eId_size]; omega, pre_e id⟩, by rw [idX_e]; exact h1⟩
theorem isX_e {id : ByteArray} (h : mayS id = true) : isX (nE ++ id) = true := isX_iff.2 ⟨id, h, rfl⟩
theorem isX_new : isX nEN = false := by
 rw [← Bool.not_eq_true, isX_iff]
 rintro ⟨id, h1, h2⟩
 have := congrArg ByteArray.size h2
 rw [eId_size, (mayS_iff.1 h1).2] at this
 exact absurd this (by decide)
theorem e_new {id : ByteArray} (h : mayS id = true) : nE ++ id ≠ nEN := fun e => by
 have h1 := isX_e h
 rw [e, isX_new] at h1
 cases h1
/-! files in order are what their members are -/
theorem rises_ext : ∀ {a b : Fs}, Rises a → Rises b → (∀ p, p ∈ a ↔ p ∈ b) → a = b
 | [], [], _, _, _ => rfl
 | [], y :: b, _, _, h => by have := (h y).2 (List.mem_cons_self ..); cases this
 | x :: a, [], _, _, h => by have := (h x).1 (List.mem_cons_self ..); cases this
 | x :: a, y :: b, ha, hb, h => by
  obtain ⟨a1, a2⟩ := List.pairwise_cons.1 ha
  obtain ⟨b1, b2⟩ := List.pairwise_cons.1 hb
  have e : x = y := by
   rcases List.mem_cons.1 ((h x).1 (List.mem_cons_self ..)) with e | e
   ·exact e
   ·rcases List.mem_cons.1 ((h y).2 (List.mem_cons_self ..)) with e' | e'
    ·exact e'.symm
    ·have := ltN_trans (b1 x e) (a1 y e')
     rw [ltN_irrefl] at this
     cases this
  subst e
  have : a = b := rises_ext a2 b2 (fun p => by
   constructor
   ·intro hp
    rcases List.mem_cons.1 ((h p).1 (List.mem_cons_of_mem _ hp)) with e | e
    ·subst e; exact absurd rfl (ltN_ne (a1 _ hp))
    ·exact e
   ·intro hp
    rcases List.mem_cons.1 ((h p).2 (List.mem_cons_of_mem _ hp)) with e | e
    ·subst e; exact absurd rfl (ltN_ne (b1 _ hp))
    ·exact e)
  rw [this]
theorem getF_some : ∀ {l : Fs}, Rises l → ∀ {p : ByteArray × ByteArray}, p ∈ l → getF l p.1 = p.2
 | [], _, _, hp => by cases hp
 | q :: l, hd, p, hp => by
  obtain ⟨g1, g2⟩ := List.pairwise_cons.1 hd
  unfold getF
  rw [List.find?_cons]
  rcases List.mem_cons.1 hp with rfl | hp
  ·rw [sameN_iff.2 rfl]; rfl
  ·have : sameN q.1 p.1 = false := by rw [← Bool.not_eq_true, sameN_iff]; exact ltN_ne (g1 p hp)
   rw [this]
   exact getF_some g2 hp
theorem getF_put {l : Fs} (h : Rises l) (n s : ByteArray) : getF (putF l n s) n = s := getF_some (putF_rises n s h) (p := (n, s)) (mem_putF.2 (Or.inl rfl))
theorem put_move {l : Fs} (h : Rises l) {a b : ByteArray} (hab : b ≠ a) (ha : hasF l a = false) (F : ByteArray) : delF (putF (putF l a F) b (getF (putF l a F) a)) a = putF l b F := by
 rw [getF_put h]
 refine rises_ext (delF_rises a (putF_rises b F (putF_rises a F h))) (putF_rises b F h) (fun p => ?_)
 have hn : ∀ p ∈ l, p.1 ≠ a := fun p hp e => by
  have : hasF l a = true := hasF_iff.2 ⟨p, hp, e⟩
  rw [ha] at this
  cases this
 rw [mem_delF, mem_putF, mem_putF, mem_putF]
 constructor
 ·rintro ⟨rfl | ⟨rfl | ⟨h1, _⟩, h2⟩, h3⟩
  ·exact Or.inl rfl
  ·exact absurd rfl h3
  ·exact Or.inr ⟨h1, h2⟩
 ·rintro (rfl | ⟨h1, h2⟩)
  ·exact ⟨Or.inl rfl, hab⟩
  ·exact ⟨Or.inr ⟨Or.inr ⟨h1, hn p h1⟩, h2⟩, hn p h1⟩
/-! a disk that is idle -/
def idl (l : Fs) (n : Int) : DK := ⟨l, l, [], n, false, [], -1⟩
theorem idl_new : Good 0 (idl [] 0) := good_new
theorem newK_idl : newK = idl [] 0 := rfl
end Go.Proofs.YtpgbkeaaklglkaaGreatDoor.Q