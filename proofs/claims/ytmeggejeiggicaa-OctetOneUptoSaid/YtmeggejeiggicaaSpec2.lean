/- Lists of texts, written and read, of the program and of the reference: for lists and bytes that hold no more than 2000000 letters. -/
import Derived.Test.YtmeggejeiggicaaSpec
namespace Go.Proofs.Ytmeggejeiggicaa.Pure
open Go.RowKit Go.Proofs.Ytmeggejeiggicaa.Q Go.Proofs.YtmeggejeiggicaaW.PrintWords Go.Proofs.YtmeggejeiggicaaW.PrintLast Go.Proofs.YtmeggejeiggicaaW.PrintMore
set_option linter.unusedVariables false
def listL (l : List ByteArray) : List Int := l.flatMap fun s => bytesOf (numS s.size ++ s)
def listS (l : List ByteArray) : ByteArray := strOfNums (bytesOf (numS l.length) ++ listL l)
def total (l : List ByteArray) : Nat := (l.map fun s => s.size + 1).sum
theorem bytesOf_len (s : ByteArray) : (bytesOf s).length = s.size := by simp [bytesOf]
theorem listL_len : ∀ l, (listL l).length ≤ 10 * total l := by
  intro l
  induction l with
  | nil => simp [listL, total]
  | cons s l ih =>
    have h1 := numS_size s.size
    have e : listL (s :: l) = bytesOf (numS s.size ++ s) ++ listL l := by simp [listL]
    have e2 : total (s :: l) = s.size + 1 + total l := by simp [total]
    rw [e, e2, List.length_append, bytesOf_len, ByteArray.size_append]
    omega
theorem total_mem {l : List ByteArray} {s : ByteArray} (h : s ∈ l) : s.size + 1 ≤ total l := by
  induction l with
  | nil => cases h
  | cons a l ih =>
    have e2 : total (a :: l) = a.size + 1 + total l := by simp [total]
    rcases List.mem_cons.1 h with rfl | h
    · omega
    · have := ih h; omega
theorem total_len (l : List ByteArray) : l.length ≤ total l := by
  induction l with
  | nil => simp
  | cons a l ih =>
    have e2 : total (a :: l) = a.size + 1 + total l := by simp [total]
    simp only [List.length_cons]; omega
theorem rdOf_at (l : List ByteArray) (i : Nat) (h : i < l.length) : rdOf ByteArray.empty l (i : Int) = l[i] := by
  simp [rdOf, List.getD_eq_getElem?_getD, List.getElem?_eq_getElem h]
theorem oct_list_l0 (l : List ByteArray) (hl : total l ≤ 2000000) : ∀ (d i : Nat), d + i = l.length → ∀ (acc : List Int) (k : Nat), acc.length + (listL (l.drop i)).length ≤ 100000000 → 30 + d < k →
    octet_List.l0 k acc l l.length i = some (strOfNums (acc ++ listL (l.drop i))) := by
  have hlen := total_len l
  intro d
  induction d with
  | zero =>
    intro i hi acc k ha hk
    obtain ⟨k, rfl⟩ : ∃ m, k = m + 1 := ⟨k - 1, by omega⟩
    simp only [octet_List.l0]
    rw [if_neg (by omega), List.drop_of_length_le (by omega)]
    simp [listL]
  | succ d ih =>
    intro i hi acc k ha hk
    obtain ⟨k, rfl⟩ : ∃ m, k = m + 1 := ⟨k - 1, by omega⟩
    have hil : i < l.length := by omega
    have hd : l.drop i = l[i] :: l.drop (i + 1) := List.drop_eq_getElem_cons hil
    have hm := total_mem (List.getElem_mem hil)
    have e : listL (l.drop i) = bytesOf (numS l[i].size ++ l[i]) ++ listL (l.drop (i + 1)) := by rw [hd, listL, List.flatMap_cons]; rfl
    rw [e] at ha ⊢
    rw [List.length_append, bytesOf_len] at ha
    simp only [octet_List.l0]
    rw [if_pos (by omega), if_pos (by omega), if_pos (by omega), rdOf_at l i hil, oct_text _ (by omega) k (by omega)]
    simp only [Option.bind_some]
    rw [if_pos (by omega), show wrap64 ((i : Int) + 1) = ((i + 1 : Nat) : Int) by rw [IntWalk.wrap64_in _ (by omega)]; omega]
    rw [ih (i + 1) (by omega) _ k (by rw [List.length_append, bytesOf_len]; omega) (by omega), List.append_assoc]
theorem oct_list (l : List ByteArray) (hl : total l ≤ 2000000) (k : Nat) (hk : 30 + l.length < k) : octet_List.f k l = some (listS l) := by
  have hlen := total_len l
  have h1 := numS_size l.length
  have h2 := listL_len l
  unfold octet_List.f
  rw [IntWalk.u64_in _ (by omega), oct_num _ (by omega) k (by omega)]
  simp only [Option.bind_some]
  rw [if_pos (by omega)]
  exact oct_list_l0 l hl l.length 0 rfl _ k (by rw [bytesOf_len, List.drop_zero]; omega) hk
theorem ref_list_l0 (l : List ByteArray) (hl : total l ≤ 2000000) : ∀ (d i : Nat), d + i = l.length → ∀ (acc : List Int) (k : Nat), acc.length + (listL (l.drop i)).length ≤ 100000000 → 30 + d < k →
    stowageref01_List.l0 k l acc i = some (strOfNums (acc ++ listL (l.drop i))) := by
  have hlen := total_len l
  intro d
  induction d with
  | zero =>
    intro i hi acc k ha hk
    obtain ⟨k, rfl⟩ : ∃ m, k = m + 1 := ⟨k - 1, by omega⟩
    simp only [stowageref01_List.l0]
    rw [if_neg (by omega), List.drop_of_length_le (by omega)]
    simp [listL]
  | succ d ih =>
    intro i hi acc k ha hk
    obtain ⟨k, rfl⟩ : ∃ m, k = m + 1 := ⟨k - 1, by omega⟩
    have hil : i < l.length := by omega
    have hd : l.drop i = l[i] :: l.drop (i + 1) := List.drop_eq_getElem_cons hil
    have hm := total_mem (List.getElem_mem hil)
    have e : listL (l.drop i) = bytesOf (numS l[i].size ++ l[i]) ++ listL (l.drop (i + 1)) := by rw [hd, listL, List.flatMap_cons]; rfl
    rw [e] at ha ⊢
    rw [List.length_append, bytesOf_len] at ha
    simp only [stowageref01_List.l0]
    rw [if_pos (by omega), if_pos (by omega), rdOf_at l i hil, ref_text _ (by omega) k (by omega)]
    simp only [Option.bind_some]
    rw [if_pos (by omega), show wrap64 ((i : Int) + 1) = ((i + 1 : Nat) : Int) by rw [IntWalk.wrap64_in _ (by omega)]; omega]
    rw [ih (i + 1) (by omega) _ k (by rw [List.length_append, bytesOf_len]; omega) (by omega), List.append_assoc]
theorem ref_list (l : List ByteArray) (hl : total l ≤ 2000000) (k : Nat) (hk : 30 + l.length < k) : stowageref01_List.f k l = some (listS l) := by
  have hlen := total_len l
  have h1 := numS_size l.length
  have h2 := listL_len l
  unfold stowageref01_List.f
  rw [IntWalk.u64_in _ (by omega), ref_num _ (by omega) k (by omega)]
  simp only [Option.bind_some]
  rw [if_pos (by omega)]
  exact ref_list_l0 l hl l.length 0 rfl _ k (by rw [bytesOf_len, List.drop_zero]; omega) hk
theorem readText_ok {s : ByteArray} {a : Int} (h : (readText s a).2.2 = 0) : 0 ≤ a ∧ a < (readText s a).2.1 ∧ (readText s a).2.1 ≤ s.size := by
  unfold readText at h ⊢
  have H := @readNum_ok s a
  generalize readNum s a = r at *
  obtain ⟨n, q, e⟩ := r
  simp only at *
  by_cases he : e = 0
  · rw [if_pos he] at h ⊢
    obtain ⟨h1, h2, h3, h4, h5⟩ := H he
    by_cases hn : n > (s.size : Int) - q
    · rw [if_pos hn] at h; simp at h
    · rw [if_neg hn]
      exact ⟨h1, by simp only; omega, by simp only; omega⟩
  · rw [if_neg he] at h
    exact absurd h he
/-- texts from a place on, as many as are said -/
theorem both_read_l (s : ByteArray) (hs : s.size ≤ 2000000) (n : Int) : ∀ (d : Nat) (p : Nat) (acc : List ByteArray), s.size - p < d → p ≤ s.size → acc.length ≤ p → ∃ r : List ByteArray × Int × Int, r.1.length ≤ s.size ∧ ∀ k, d + 40 < k →
    octet_ReadList.l0 k s n p 0 acc = some r ∧ stowageref01_ReadList.l0 k s n p acc = some r := by
  intro d
  induction d with
  | zero => intro p acc h; omega
  | succ d ih =>
    intro p acc hd hp hl
    have e0 : IntKind.u64.wrap (acc.length : Int) = (acc.length : Int) := IntWalk.u64_in _ (by omega)
    by_cases hlt : (acc.length : Int) < n
    · by_cases h0 : (readText s p).2.2 = 0
      · obtain ⟨h1, h2, h3⟩ := readText_ok h0
        obtain ⟨q, hq⟩ := Int.eq_ofNat_of_zero_le (show 0 ≤ (readText s p).2.1 by omega)
        obtain ⟨r, hr1, hr⟩ := ih q (acc ++ [(readText s p).1]) (by omega) (by omega) (by simp; omega)
        refine ⟨r, hr1, fun k hk => ?_⟩
        obtain ⟨k, rfl⟩ : ∃ m, k = m + 1 := ⟨k - 1, by omega⟩
        simp only [octet_ReadList.l0, stowageref01_ReadList.l0]
        rw [if_pos trivial, e0, if_pos hlt, if_pos hlt, oct_readText s (by omega) _ k (by omega), ref_readText s (by omega) _ k (by omega)]
        simp only [Option.bind_some]
        rw [if_pos (by omega), if_pos h0, if_pos (by omega), h0, hq]
        exact hr k (by omega)
      · refine ⟨([], 0, (readText s p).2.2), by simp, fun k hk => ?_⟩
        obtain ⟨k, rfl⟩ : ∃ m, k = m + 2 := ⟨k - 2, by omega⟩
        simp only [octet_ReadList.l0, stowageref01_ReadList.l0]
        rw [if_pos trivial, e0, if_pos hlt, if_pos hlt, oct_readText s (by omega) _ (k + 1) (by omega), ref_readText s (by omega) _ (k + 1) (by omega)]
        simp only [Option.bind_some]
        rw [if_pos (by omega), if_neg h0, if_neg h0]
        exact ⟨rfl, rfl⟩
    · refine ⟨(acc, (p : Int), 0), by show acc.length ≤ _; omega, fun k hk => ?_⟩
      obtain ⟨k, rfl⟩ : ∃ m, k = m + 1 := ⟨k - 1, by omega⟩
      simp only [octet_ReadList.l0, stowageref01_ReadList.l0]
      rw [if_pos trivial, e0, if_neg hlt, if_neg hlt]
      exact ⟨rfl, rfl⟩
theorem both_read (s : ByteArray) (hs : s.size ≤ 2000000) (a : Int) : ∃ r : List ByteArray × Int × Int, r.1.length ≤ s.size ∧ ∀ k, 3000000 < k → octet_ReadList.f k s a = some r ∧ stowageref01_ReadList.f k s a = some r := by
  by_cases h0 : (readNum s a).2.2 = 0
  · obtain ⟨h1, h2, h3, h4, h5⟩ := readNum_ok h0
    obtain ⟨q, hq⟩ := Int.eq_ofNat_of_zero_le (show 0 ≤ (readNum s a).2.1 by omega)
    obtain ⟨r, hr1, hr⟩ := both_read_l s hs (readNum s a).1 (s.size + 1) q [] (by omega) (by omega) (by simp)
    refine ⟨r, hr1, fun k hk => ?_⟩
    unfold octet_ReadList.f stowageref01_ReadList.f
    rw [oct_read s (by omega) a k (by omega), ref_read s (by omega) a k (by omega)]
    simp only [Option.bind_some]
    rw [if_pos h0, h0, hq]
    exact hr k (by omega)
  · refine ⟨([], 0, (readNum s a).2.2), by simp, fun k hk => ?_⟩
    unfold octet_ReadList.f stowageref01_ReadList.f
    rw [oct_read s (by omega) a k (by omega), ref_read s (by omega) a k (by omega)]
    simp only [Option.bind_some]
    obtain ⟨k, rfl⟩ : ∃ m, k = m + 1 := ⟨k - 1, by omega⟩
    simp only [octet_ReadList.l0]
    rw [if_neg h0, if_neg h0]
    exact ⟨rfl, rfl⟩
theorem OctetLists (l : List ByteArray) (hl : total l ≤ 2000000) (s : ByteArray) (hs : s.size ≤ 2000000) (a : Int) (k : Nat) (hk : 3000000 < k) : stowagelaw01_OctetLists.f k l s a = some true := by
  obtain ⟨r, hr1, hr⟩ := both_read s hs a
  obtain ⟨h1, h2⟩ := hr k hk
  have hlen := total_len l
  unfold stowagelaw01_OctetLists.f
  rw [h1, h2, awake_true k (by omega), oct_list l hl k (by omega), ref_list l hl k (by omega)]
  simp only [Option.bind_some, if_true]
  rw [same_self r.1 (by omega) k (by omega)]
  simp
/-- a number's bytes are read as it -/
theorem rnum_enc (s : ByteArray) (p : Nat) : ∀ (d i m acc : Nat) (rest : List Nat), d + i = 10 → m < 128 ^ d → (0 < i → 0 < m) → acc + m * 128 ^ i < 2 ^ 64 → (nb s).drop (p + i) = (encN d m).map Int.toNat ++ rest → 0 < d →
    rnum s p d i acc = (((acc + m * 128 ^ i : Nat) : Int), ((p + i + (encN d m).length : Nat) : Int), 0) := by
  intro d
  induction d with
  | zero => intro i m acc rest _ _ _ _ _ h; omega
  | succ d ih =>
    intro i m acc rest hd hm hi0 hlt hs _
    have hlen : p + i < s.size := by
      have := congrArg List.length hs
      rw [List.length_drop, nb_len, List.length_append, List.length_map] at this
      have h1 : 0 < (encN (d + 1) m).length := by simp only [encN]; split <;> simp
      omega
    have hb := nb_bt s (p + i) hlen
    rw [hs] at hb
    simp only [rnum]
    rw [if_neg (by omega)]
    by_cases h128 : m < 128
    · have e : encN (d + 1) m = [(m : Int)] := by simp only [encN]; rw [if_pos h128]
      rw [e] at hb ⊢
      simp only [List.map_cons, List.map_nil, List.cons_append, List.nil_append, List.cons.injEq, Int.toNat_natCast] at hb
      have hbr := bt_range s ((p + i : Nat) : Int)
      have hbm : bt s ((p + i : Nat) : Int) = (m : Int) := by omega
      rw [hbm]
      have h9 : i = 9 → m ≤ 1 := by rintro rfl; omega
      rw [if_neg (by omega), if_pos (by omega), Int.toNat_natCast, Nat.mod_eq_of_lt h128]
      rfl
    · have e : encN (d + 1) m = ((m % 128 + 128 : Nat) : Int) :: encN d (m / 128) := by simp only [encN]; rw [if_neg h128]
      rw [e] at hb ⊢
      simp only [List.map_cons, List.cons_append, List.cons.injEq, Int.toNat_natCast] at hb
      have hbr := bt_range s ((p + i : Nat) : Int)
      have hbm : bt s ((p + i : Nat) : Int) = ((m % 128 + 128 : Nat) : Int) := by omega
      have hd0 : 0 < d := by
        rcases Nat.eq_zero_or_pos d with h0 | h0
        · subst h0; simp at hm; omega
        · exact h0
      rw [hbm]
      rw [if_neg (by omega), if_neg (by omega), Int.toNat_natCast]
      have hsplit : m * 128 ^ i = m % 128 * 128 ^ i + m / 128 * 128 ^ (i + 1) := by
        rw [Nat.pow_succ, Nat.mul_comm (128 ^ i) 128, ← Nat.mul_assoc, ← Nat.add_mul]
        congr 1; omega
      rw [show (m % 128 + 128) % 128 = m % 128 by omega]
      have hs2 : (nb s).drop (p + (i + 1)) = (encN d (m / 128)).map Int.toNat ++ rest := by rw [show p + (i + 1) = p + i + 1 by omega]; exact hb.2.symm
      rw [ih (i + 1) (m / 128) (acc + m % 128 * 128 ^ i) rest (by omega) (by rw [Nat.pow_succ] at hm; exact Nat.div_lt_of_lt_mul (by omega)) (by omega) (by omega) hs2 hd0]
      rw [List.length_cons, hsplit, show acc + m % 128 * 128 ^ i + m / 128 * 128 ^ (i + 1) = acc + (m % 128 * 128 ^ i + m / 128 * 128 ^ (i + 1)) by omega, show p + (i + 1) + (encN d (m / 128)).length = p + i + ((encN d (m / 128)).length + 1) by omega]
theorem encN_range : ∀ d n, ∀ x ∈ encN d n, 0 ≤ x ∧ x < 256 := by
  intro d
  induction d with
  | zero => intro n x hx; cases hx
  | succ d ih =>
    intro n x hx
    simp only [encN] at hx
    split at hx
    · simp only [List.mem_singleton] at hx; omega
    · rcases List.mem_cons.1 hx with rfl | hx
      · omega
      · exact ih _ x hx
theorem nb_numS (n : Nat) : nb (numS n) = (encN 10 n).map Int.toNat := nb_strOf _ (encN_range 10 n)
theorem numS_len (n : Nat) : (numS n).size = (encN 10 n).length := by unfold numS; rw [strOfNums_size]
theorem readNum_at (s : ByteArray) (p n : Nat) (rest : List Nat) (hp : p ≤ s.size) (hn : n < 2 ^ 64) (h : (nb s).drop p = nb (numS n) ++ rest) : readNum s p = ((n : Int), ((p + (numS n).size : Nat) : Int), 0) := by
  unfold readNum
  rw [if_neg (by omega), Int.toNat_natCast, rnum_enc s p 10 0 n 0 rest rfl (by omega) (by omega) (by omega) (by rw [Nat.add_zero, h, nb_numS]) (by omega), numS_len]
  simp
theorem readText_at (s x : ByteArray) (p : Nat) (rest : List Nat) (hp : p ≤ s.size) (hx : x.size < 2 ^ 60) (h : (nb s).drop p = nb (numS x.size ++ x) ++ rest) : readText s p = (x, ((p + ((numS x.size).size + x.size) : Nat) : Int), 0) := by
  have hl := congrArg List.length h
  rw [List.length_drop, nb_len, List.length_append, nb_len, ByteArray.size_append] at hl
  have hd : (nb s).drop (p + (numS x.size).size) = nb x ++ rest := by
    rw [← List.drop_drop, h, nb_app, List.append_assoc, List.drop_append_of_le_length (by rw [nb_len]; exact Nat.le_refl _), List.drop_of_length_le (by rw [nb_len]; exact Nat.le_refl _), List.nil_append]
  unfold readText
  rw [readNum_at s p x.size (nb x ++ rest) hp (by omega) (by rw [h, nb_app, List.append_assoc])]
  simp only [if_true]
  rw [if_neg (by omega)]
  have e : s.extract (p + (numS x.size).size) (p + (numS x.size).size + x.size) = x := by
    apply nb_inj
    rw [nb_extract, hd, show p + (numS x.size).size + x.size - (p + (numS x.size).size) = x.size by omega, List.take_append_of_le_length (by rw [nb_len]; exact Nat.le_refl _), List.take_of_length_le (by rw [nb_len]; exact Nat.le_refl _)]
  rw [show (((p + (numS x.size).size : Nat) : Int) + (x.size : Int)).toNat = p + (numS x.size).size + x.size by omega, Int.toNat_natCast, e]
  rw [show ((p + (numS x.size).size : Nat) : Int) + (x.size : Int) = ((p + ((numS x.size).size + x.size) : Nat) : Int) by omega]
theorem oct_readList_at (s : ByteArray) (hs : s.size ≤ 100000000) (l : List ByteArray) (tail : List Nat) : ∀ (rest done : List ByteArray) (p k : Nat), done ++ rest = l → (nb s).drop p = (rest.flatMap fun x => nb (numS x.size ++ x)) ++ tail → p ≤ s.size → l.length ≤ 100000000 → 40 + rest.length < k →
    octet_ReadList.l0 k s (l.length : Int) p 0 done = some (l, ((s.size - tail.length : Nat) : Int), 0) := by
  intro rest
  induction rest with
  | nil =>
    intro done p k hd ht hp hn hk
    obtain ⟨k, rfl⟩ : ∃ m, k = m + 1 := ⟨k - 1, by omega⟩
    have hl := congrArg List.length ht
    simp only [List.flatMap_nil, List.nil_append, List.length_drop, nb_len] at hl
    simp only [List.append_nil] at hd
    subst hd
    simp only [octet_ReadList.l0]
    rw [if_pos trivial, IntWalk.u64_in _ (by omega), if_neg (by omega), show p = s.size - tail.length by omega]
  | cons x rest ih =>
    intro done p k hd ht hp hn hk
    obtain ⟨k, rfl⟩ : ∃ m, k = m + 1 := ⟨k - 1, by omega⟩
    have hl := congrArg List.length ht
    simp only [List.flatMap_cons, List.length_drop, nb_len, List.length_append, ByteArray.size_append] at hl
    have hdl := congrArg List.length hd
    simp only [List.length_append, List.length_cons] at hdl
    have ht' : (nb s).drop p = nb (numS x.size ++ x) ++ ((rest.flatMap fun x => nb (numS x.size ++ x)) ++ tail) := by rw [ht, List.flatMap_cons, List.append_assoc]
    have hr := readText_at s x p _ hp (by omega) ht'
    simp only [octet_ReadList.l0]
    rw [if_pos trivial, IntWalk.u64_in _ (by omega), if_pos (by omega), oct_readText s (by omega) _ k (by simp at hk; omega), hr]
    simp only [Option.bind_some]
    rw [if_pos (by omega)]
    refine ih (done ++ [x]) _ k (by rw [← hd]; simp) ?_ (by omega) hn (by simp at hk; omega)
    rw [← List.drop_drop, ht', List.drop_append_of_le_length (by rw [nb_len, ByteArray.size_append]; exact Nat.le_refl _), List.drop_of_length_le (by rw [nb_len, ByteArray.size_append]; exact Nat.le_refl _), List.nil_append]
theorem nb_listS (l : List ByteArray) : nb (listS l) = nb (numS l.length) ++ l.flatMap fun x => nb (numS x.size ++ x) := by
  have hb : ∀ s : ByteArray, (bytesOf s).map Int.toNat = nb s := by
    intro s; simp [bytesOf, nb]
  have hr : ∀ s : ByteArray, ∀ x ∈ bytesOf s, 0 ≤ x ∧ x < 256 := by
    intro s x hx
    simp only [bytesOf, List.mem_map] at hx
    obtain ⟨c, _, rfl⟩ := hx
    have := c.toNat_lt
    omega
  unfold listS
  rw [nb_strOf, List.map_append, hb]
  · congr 1
    unfold listL
    rw [List.map_flatMap]
    congr 1
    funext s
    exact hb _
  · intro x hx
    rcases List.mem_append.1 hx with hx | hx
    · exact hr _ x hx
    · simp only [listL, List.mem_flatMap] at hx
      obtain ⟨s, _, hx⟩ := hx
      exact hr _ x hx
theorem OctetBack (n : Nat) (hn : n < 2 ^ 64) (l : List ByteArray) (hl : total l ≤ 2000000) (x y : ByteArray) (hx : x.size ≤ 2000000) (hy : y.size ≤ 2000000) (k : Nat) (hk : 3000000 < k) : stowagelaw01_OctetBack.f k n l x y = some true := by
  have hlen := total_len l
  have h1 := numS_size n
  have hz : (listS l).size ≤ 20000010 := by
    have h2 := listL_len l
    have h3 := numS_size l.length
    unfold listS
    rw [strOfNums_size, List.length_append, bytesOf_len]
    omega
  unfold stowagelaw01_OctetBack.f
  rw [oct_num n hn k (by omega)]
  simp only [Option.bind_some]
  rw [if_pos (by omega), oct_list l hl k (by omega)]
  simp only [Option.bind_some]
  have s1 : (x ++ numS n).size = x.size + (numS n).size := ByteArray.size_append
  have s2 : ((x ++ numS n) ++ listS l).size = x.size + (numS n).size + (listS l).size := by rw [ByteArray.size_append, s1]
  have s3 : (((x ++ numS n) ++ listS l) ++ y).size = x.size + (numS n).size + (listS l).size + y.size := by rw [ByteArray.size_append, s2]
  rw [if_pos (by omega), if_pos (by omega)]
  have hnb : nb (((x ++ numS n) ++ listS l) ++ y) = nb x ++ (nb (numS n) ++ (nb (listS l) ++ nb y)) := by simp only [nb_app, List.append_assoc]
  have hd1 : (nb (((x ++ numS n) ++ listS l) ++ y)).drop x.size = nb (numS n) ++ (nb (listS l) ++ nb y) := by
    rw [hnb, List.drop_append_of_le_length (by rw [nb_len]; exact Nat.le_refl _), List.drop_of_length_le (by rw [nb_len]; exact Nat.le_refl _), List.nil_append]
  have hd2 : (nb (((x ++ numS n) ++ listS l) ++ y)).drop (x.size + (numS n).size) = nb (numS l.length) ++ ((l.flatMap fun x => nb (numS x.size ++ x)) ++ nb y) := by
    rw [← List.drop_drop, hd1, List.drop_append_of_le_length (by rw [nb_len]; exact Nat.le_refl _), List.drop_of_length_le (by rw [nb_len]; exact Nat.le_refl _), List.nil_append, nb_listS, List.append_assoc]
  have hd3 : (nb (((x ++ numS n) ++ listS l) ++ y)).drop (x.size + (numS n).size + (numS l.length).size) = (l.flatMap fun x => nb (numS x.size ++ x)) ++ nb y := by
    rw [← List.drop_drop, hd2, List.drop_append_of_le_length (by rw [nb_len]; exact Nat.le_refl _), List.drop_of_length_le (by rw [nb_len]; exact Nat.le_refl _), List.nil_append]
  have hll := congrArg List.length hd2
  rw [List.length_drop, nb_len, s3, List.length_append, nb_len] at hll
  have r1 := readNum_at (((x ++ numS n) ++ listS l) ++ y) x.size n _ (by omega) hn hd1
  have r2 := readNum_at (((x ++ numS n) ++ listS l) ++ y) (x.size + (numS n).size) l.length _ (by omega) (by omega) hd2
  have hz2 : (numS l.length).size ≤ (listS l).size := by
    have := congrArg List.length (nb_listS l)
    rw [nb_len, List.length_append, nb_len] at this
    omega
  have r3 := oct_readList_at (((x ++ numS n) ++ listS l) ++ y) (by omega) l (nb y) l [] (x.size + (numS n).size + (numS l.length).size) k rfl hd3 (by omega) (by omega) (by omega)
  rw [nb_len, s3, show x.size + (numS n).size + (listS l).size + y.size - y.size = x.size + (numS n).size + (listS l).size by omega] at r3
  rw [oct_read _ (by omega) _ k (by omega), r1]
  simp only [Option.bind_some]
  have r4 : octet_ReadList.f k (((x ++ numS n) ++ listS l) ++ y) ((x.size + (numS n).size : Nat) : Int) = some (l, ((x.size + (numS n).size + (listS l).size : Nat) : Int), 0) := by
    unfold octet_ReadList.f
    rw [oct_read _ (by omega) _ k (by omega), r2]
    simp only [Option.bind_some]
    exact r3
  rw [r4, awake_true k (by omega)]
  simp only [Option.bind_some, if_true]
  rw [same_self l (by omega) k (by omega), s3, IntWalk.wrap64_in _ (by omega)]
  simp only [Option.bind_some, if_true, Option.some.injEq, beq_iff_eq]
  omega

end Go.Proofs.Ytmeggejeiggicaa.Pure
