/- An extent's id; what an id's file has. -/
import Derived.Outline
import Derived.Test.YtdeakccaecphlaaDoorX1
namespace Go.Proofs.YtdeakccaecphlaaDoor.Q
open Go.Maps Go.WideShapes Go.WideMaps Go.RowKit Go.Proofs.YtdeakccaecphlaaDoorW.PrintWords Go.Proofs.YtdeakccaecphlaaDoorW.PrintLast Go.Proofs.YtdeakccaecphlaaDoorW.PrintMore
set_option linter.unusedVariables false
set_option linter.unusedSimpArgs false
set_option maxHeartbeats 10000000
set_option maxRecDepth 100000
/-! an extent's id -/
noncomputable def tagS (s : ByteArray) : ByteArray := sha (strOfNums (tagB 69 [s]))
noncomputable def idS (s : ByteArray) : ByteArray := hexF (tagS s)
theorem sha_size (t : ByteArray) : (sha t).size = 32 := by
 unfold sha shaOf
 rw [strOfNums_size, outs_len]
 have h := foldB_in (s := initS) (xs := bytesOf t ++ tailB (bytesOf t).length t.size) ⟨rfl, initS_in⟩ (tailB_range (bytes_in t)) ((bytesOf t ++ tailB (bytesOf t).length t.size).length / 64) (by omega)
 rw [h.1]
theorem tagS_size (s : ByteArray) : (tagS s).size = 32 := sha_size _
theorem idS_may (s : ByteArray) : mayS (idS s) = true := mayS_hex (tagS_size s)
theorem idS_size (s : ByteArray) : (idS s).size = 64 := (mayS_iff.1 (idS_may s)).2
theorem lenS_one (s : ByteArray) : lenS [s] = s.size + 8 := by simp [lenS]
theorem ID_calls (s : ByteArray) (hs : s.size ≤ 1000000000) (w : World) (hG : InG w) : Calls Tryd.prog 5 #[.string s] w fun e w' => e = .returned (.string (idS s)) ∧ Below w.heap.size w w' := by
 have HS := Aside0.mk hs
 have HG := Aside0.mk hG
 clear hs hG
 go_enter Tryd.func5, Tryd.ntmps5
 go_wp2_with (fail)
 have b1 : Below w.heap.size w (w.alloc (.cells #[.string s] 9 (0, 0))) := below_alloc (Below.refl _ _) _
 have hC := str1 w s
 have HC := Aside0.mk hC
 have B1 := Aside0.mk b1
 clear hC b1
 generalize w.alloc (.cells #[.string s] 9 (0, 0)) = w1 at HC B1 ⊢
 refine (digest_Tagged.calls 69 (by decide) (some ⟨w.heap.size, 0, none⟩) 1 [s] w1 HC.out (HG.out.below B1.out) (fun t ht => by rw [List.mem_singleton] at ht; rw [ht]; have := HS.out; omega)).mono ?_
 rintro e w2 ⟨rfl, hb⟩
 rw [sha_tag 69 (by decide) [s] (by rw [lenS_one]; have := HS.out; omega)]
 have B2 := Aside0.mk (below_step B1.out hb)
 clear hb
 go_wp2_with (fail)
 refine (digest_Hex.calls (sha (strOfNums (tagB 69 [s]))) w2 (by rw [sha_size]; decide)).mono ?_
 rintro e w3 ⟨rfl, hb⟩
 have B3 := Aside0.mk (below_step B2.out hb)
 clear hb
 go_wp2
 go_ret
 exact ⟨rfl, B3.out⟩
theorem ref_id (s : ByteArray) (hs : s.size ≤ 1000000000) (k : Nat) (hk : 1000 < k) : stowageref06_ID.f k s = some (idS s) := by
 unfold stowageref06_ID.f
 rw [refTagged_eq 69 (by decide) [s] (by simp) (by rw [lenS_one]; omega) k (by simp; omega), Option.bind_some, refHex_eq _ (by rw [sha_size]; decide) k (by rw [sha_size]; omega)]
 rfl
theorem may_calls (id : ByteArray) (hs : id.size ≤ 140737488351232) (w : World) : Calls Tryd.prog 35 #[.string id] w fun e w' => e = .returned (.bool (mayS id)) ∧ Below w.heap.size w w' := by
 have HS := Aside0.mk hs
 clear hs
 go_enter Tryd.func35, Tryd.ntmps35
 go_wp2_with (fail)
 refine (digest_Unhex.calls id w HS.out).mono ?_
 rintro e w1 ⟨rfl, hb⟩
 have B1 := Aside0.mk hb
 clear hb
 by_cases h : okHex id
 ·have he : mayS id = decide (((valsL id (id.size / 2)).length : Nat) = 32) := by
   unfold mayS
   rw [unhex_ok h]
   simp only [true_and, strOfNums_size]
  rw [unhex_ok h]
  have HE := Aside0.mk he
  have hz : (strOfNums (valsL id (id.size / 2))).size = (valsL id (id.size / 2)).length := strOfNums_size _
  generalize (valsL id (id.size / 2)) = vs at hz HE ⊢
  generalize strOfNums vs = t at hz ⊢
  clear he h
  by_cases h2 : vs.length = 32
  ·have q : ((t.size : Int) == 32) = true := beq_iff_eq.2 (by omega)
   have HE2 : Aside0 (mayS id = true) := ⟨by rw [HE.out, h2]; rfl⟩
   clear hz h2
   go_wp2
   go_ret
   exact ⟨by rw [HE2.out]; rfl, B1.out⟩
  ·have q : ((t.size : Int) == 32) = false := beq_eq_false_iff_ne.2 (by omega)
   have HE2 : Aside0 (mayS id = false) := ⟨by rw [HE.out]; exact decide_eq_false h2⟩
   clear hz h2
   go_wp2
   go_ret
   exact ⟨by rw [HE2.out]; rfl, B1.out⟩
 ·have HE : Aside0 (mayS id = false) := ⟨by unfold mayS; rw [unhex_bad h]; rfl⟩
  rw [unhex_bad h]
  clear h
  go_wp2
  go_ret
  exact ⟨by rw [HE.out]; rfl, B1.out⟩
/-! strings.Join with nothing between -/
theorem R_str {w : World} {base : Nat} {ok : Nat → Prop} {v : Value} {l : List ByteArray} (h : Kd.string.R 9 w base ok v l) : (v = .slice none 0 0 ∧ l = []) ∨ ∃ g c, v = .slice (some ⟨g, 0, none⟩) l.length c ∧ l.length ≤ c ∧ g < w.heap.size ∧ ∀ (j : Nat) x, l[j]? = some x → w.cell? ⟨g, 0 + j, none⟩ = some (.string x) := by
 have h0 := h
 obtain ⟨_, inner, ho, hr⟩ := h0
 obtain ⟨A, c, e, hc, hC⟩ := Kd.R_reads h
 subst e
 rcases ho.2 with ⟨e, hn⟩ | ⟨g, cap, cur, e, _, hg, _⟩
 ·injection e with e1 e2 e3
  subst e1 e3
  exact Or.inl ⟨by rw [hn], List.length_eq_zero_iff.1 hn⟩
 ·injection e with e1 e2 e3
  subst e1 e3
  refine Or.inr ⟨g, c, rfl, hc, (Array.getElem?_eq_some_iff.1 hg).1, fun j x hx => ?_⟩
  obtain ⟨hlt, hv⟩ := List.getElem?_eq_some_iff.1 hx
  obtain ⟨ad, e, hcell⟩ := (Kd.reads_of_C (enc := Value.string) (d := ByteArray.empty) hC).at_ (j : Int) (by omega) (by omega)
  injection e with e
  subst e
  rw [Int.toNat_natCast] at hcell
  have : rdOf ByteArray.empty l (j : Int) = x := by
   unfold rdOf
   rw [Int.toNat_natCast, List.getD_eq_getElem?_getD, hx]; rfl
  rw [this] at hcell
  have e : (⟨g, 0, none⟩ : Addr).add j = ⟨g, 0 + j, none⟩ := by
   unfold Addr.add
   split <;> simp_all
  rw [← e]
  exact hcell
theorem join_flat (l : List ByteArray) : Lib.join (l.map (·.data.toList)) (⟨#[]⟩ : ByteArray).data.toList = l.flatMap (·.data.toList) := by
 show Lib.join (l.map (·.data.toList)) [] = _
 cases l with
 | nil => rfl
 | cons x r =>
  rw [List.map_cons, Lib.join_cons, List.flatMap_cons]
  unfold Lib.joinTail
  congr 1
  rw [List.map_map]
  exact (List.flatMap_def ..).symm
theorem sjoin_calls {w : World} {base : Nat} {ok : Nat → Prop} {v : Value} {l : List ByteArray} (h : Kd.string.R 9 w base ok v l) (hs : sumS l ≤ 140737488355328) (hn : l.length ≤ 140737488355328) :
  Calls Tryd.prog 44 #[v, .string ⟨#[]⟩] w fun e w' => e = .returned (.string (joinS l)) ∧ Below w.heap.size w w' := by
 rcases R_str h with ⟨rfl, rfl⟩ | ⟨g, c, rfl, hc, hg, hcell⟩
 ·refine (lay_strings_Join_none none 0 ⟨#[]⟩ w).mono ?_
  rintro e w' ⟨rfl, rfl⟩
  exact ⟨rfl, Below.refl _ _⟩
 ·have hl : (Lib.join (l.map (·.data.toList)) (⟨#[]⟩ : ByteArray).data.toList).length = sumS l := by
   rw [join_flat, ← joinS_list, tl_len, joinS_size]
  refine (lay_strings_Join g 0 c l ⟨#[]⟩ w hcell hg hn hc (by rw [hl]; exact hs)).mono ?_
  rintro e w' ⟨rfl, hb⟩
  exact ⟨by rw [join_flat]; rfl, hb⟩
/-! what an id's file has -/
abbrev jointS (file : ByteArray) : ByteArray := joinS (framesS file).1
noncomputable def rightS (id file : ByteArray) : Bool := decide ((framesS file).2 = file.size) && (!sameN (jointS file) ⟨#[]⟩ && (decide ((jointS file).size ≤ 4096) && (sameN (idS (jointS file)) id && sameN (laidS (jointS file)) file)))
theorem eq_sameN (a b : ByteArray) : (a.toList == b.toList) = sameN a b := by
 rw [ByteArray.toList_eq, ByteArray.toList_eq]; rfl
theorem sameN_nil (s : ByteArray) : sameN s ⟨#[]⟩ = s.toList.isEmpty := by
 rw [ByteArray.toList_eq]
 unfold sameN
 cases s.data.toList <;> rfl
theorem right_laid (s : ByteArray) (h0 : 0 < s.size) (h1 : s.size ≤ 4096) : rightS (idS s) (laidS s) = true ∧ jointS (laidS s) = s := by
 have hj : jointS (laidS s) = s := by
  unfold jointS
  rw [frames_laid]
  exact join_pieces 512 (by decide) s
 refine ⟨?_, hj⟩
 unfold rightS
 rw [hj, frames_laid]
 have n0 : sameN s ⟨#[]⟩ = false := by
  rw [← Bool.not_eq_true, sameN_iff]
  rintro rfl
  exact absurd h0 (by decide)
 rw [n0, sameN_iff.2 rfl, sameN_iff.2 rfl]
 simp [h1]
theorem read_calls' (id file : ByteArray) (hf : file.size ≤ 1000000000) (w : World) (hG : InG w) :
  Calls Tryd.prog 24 #[.string id, .string file] w fun e w' => e = .returned (.tuple #[.string (jointS file), .bool (rightS id file)]) ∧ Below w.heap.size w w' := by
 have HG := Aside0.mk hG
 have HF := Aside0.mk hf
 have HZ := Aside0.mk (frames_sum file)
 have HX := Aside0.mk (oct_frames file (by omega) (11 * file.size + 201) (by omega))
 have HR : Aside0 (rightS id file = (((((framesS file).2 : Nat) : Int) == (file.size : Int)) && (!(jointS file).toList.isEmpty && (decide (((jointS file).size : Int) ≤ 4096) && (((idS (jointS file)).toList == id.toList) && ((laidS (jointS file)).toList == file.toList)))))) := ⟨by
  unfold rightS
  rw [eq_sameN, eq_sameN, ← sameN_nil]
  congr 1
  ·rw [← decide_eq_decide.2 (show ((((framesS file).2 : Nat) : Int) = (file.size : Int)) ↔ (framesS file).2 = file.size by omega)]
   rfl
  ·congr 2
   exact decide_eq_decide.2 (by omega)⟩
 clear hG hf
 unfold jointS at HR ⊢
 generalize framesS file = fr at HZ HX HR ⊢
 obtain ⟨l, n⟩ := fr
 simp only at HZ HX HR
 change Calls Tryd.prog 24 #[.string id, .string file] w fun e w' => e = .returned (.tuple #[.string (joinS l), .bool (rightS id file)]) ∧ Below w.heap.size w w'
 generalize hj : joinS l = J at HR ⊢
 have HJE := Aside0.mk hj
 clear hj
 go_enter Tryd.func24, Tryd.ntmps24
 go_wp2_with (fail)
 refine (frame_Frames.calls _ file l (n : Int) w HX.out).mono ?_
 rintro e w1 ⟨v, rfl, hR, hb⟩
 have R1 := Aside0.mk hR
 have B1 := Aside0.mk hb
 clear hR hb HX
 go_wp2_with (fail)
 refine (sjoin_calls R1.out (by have := HZ.out; have := HF.out; omega) (by have := HZ.out; have := HF.out; omega)).mono ?_
 rintro e w2 ⟨rfl, hb⟩
 have B2 := Aside0.mk (below_step B1.out hb)
 rw [HJE.out]
 have HJ : Aside0 (J.size ≤ file.size) := ⟨by rw [← HJE.out, joinS_size]; exact HZ.out.1⟩
 clear hb R1 B1
 cases q1 : ((n : Int) == (file.size : Int)) with
 | false =>
  rw [q1] at HR
  go_wp2
  go_ret2
  exact ⟨by rw [HR.out]; rfl, B2.out⟩
 | true =>
  rw [q1] at HR
  cases q2 : J.toList.isEmpty with
  | true =>
   rw [q2] at HR
   go_wp2
   go_ret2
   exact ⟨by rw [HR.out]; rfl, B2.out⟩
  | false =>
   rw [q2] at HR
   by_cases h3 : (J.size : Int) ≤ 4096
   ·have q3 : decide ((J.size : Int) ≤ 4096) = true := decide_eq_true h3
    rw [q3] at HR
    have H3 := Aside0.mk h3
    have h3p : ((J.size : Int) ≤ 4096) = True := eq_true h3
    clear h3
    go_wp2_with (fail)
    refine (ID_calls J (by have := H3.out; omega) w2 (HG.out.below B2.out)).mono ?_
    rintro e w3 ⟨rfl, hb⟩
    have B3 := Aside0.mk (below_step B2.out hb)
    clear hb
    cases q4 : ((idS J).toList == id.toList) with
    | false =>
     rw [q4] at HR
     go_wp2
     go_ret2
     exact ⟨by rw [HR.out]; rfl, B3.out⟩
    | true =>
     rw [q4] at HR
     go_wp2_with (fail)
     refine (extent_laid.calls 4000001 J (laidS J) w3 (oct_laid J (by have := H3.out; omega) _ (by omega))).mono ?_
     rintro e w4 ⟨rfl, hb⟩
     have B4 := Aside0.mk (below_step B3.out hb)
     clear hb
     cases q5 : ((laidS J).toList == file.toList) with
     | false =>
      rw [q5] at HR
      go_wp2
      go_ret2
      exact ⟨by rw [HR.out]; rfl, B4.out⟩
     | true =>
      rw [q5] at HR
      go_wp2
      go_ret2
      exact ⟨by rw [HR.out]; rfl, B4.out⟩
   ·have q3 : decide ((J.size : Int) ≤ 4096) = false := decide_eq_false h3
    rw [q3] at HR
    have h3p : ((J.size : Int) ≤ 4096) = False := eq_false h3
    clear h3
    go_wp2
    go_ret2
    exact ⟨by rw [HR.out]; rfl, B2.out⟩
end Go.Proofs.YtdeakccaecphlaaDoor.Q
namespace Go.Proofs.YtdeakccaecphlaaDoor.Q
open Go.Maps Go.WideShapes Go.WideMaps Go.RowKit Go.Proofs.YtdeakccaecphlaaDoorW.PrintWords Go.Proofs.YtdeakccaecphlaaDoorW.PrintLast Go.Proofs.YtdeakccaecphlaaDoorW.PrintMore
set_option linter.unusedVariables false
set_option linter.unusedSimpArgs false
set_option maxHeartbeats 10000000
set_option maxRecDepth 100000
/-! a store in memory; its ids -/
noncomputable def allX (l : Fs) : List ByteArray := ((l.map (·.1)).filter isX).map idX
theorem allX_len (l : Fs) : (allX l).length ≤ l.length := by
 unfold allX
 rw [List.length_map]
 exact Nat.le_trans (List.length_filter_le _ _) (Nat.le_of_eq (List.length_map ..))
theorem allX_succ {l : Fs} {j : Nat} {p : ByteArray × ByteArray} (h : l[j]? = some p) : allX (l.take (j + 1)) = allX (l.take j) ++ (if isX p.1 = true then [idX p.1] else []) := by
 obtain ⟨hl, hx⟩ := List.getElem?_eq_some_iff.1 h
 unfold allX
 rw [List.take_succ_eq_append_getElem hl, hx, List.map_append, List.filter_append, List.map_append]
 congr 1
 simp only [List.map_cons, List.map_nil, List.filter_cons, List.filter_nil]
 split <;> rfl
noncomputable def preB (n : ByteArray) : Bool := decide (2 ≤ n.size) && sameN (n.extract 0 2) nE
theorem isX_pre (n : ByteArray) : isX n = (preB n && mayS (idX n)) := rfl
theorem cut_pre (n : ByteArray) : strings_CutPrefix.f n nE = some (if preB n = true then (idX n, true) else (n, false)) := by
 unfold strings_CutPrefix.f stringslite_CutPrefix.f stringslite_HasPrefix.f preB
 rw [nE_size]
 by_cases h : 2 ≤ n.size
 ·rw [if_pos (by omega), if_pos (by omega), if_pos (by omega), decide_eq_true h, Bool.true_and]
  simp only [Option.bind_some]
  rw [show ((2 : Nat) : Int).toNat = 2 from rfl, eq_sameN]
  by_cases h2 : sameN (n.extract 0 2) nE = true
  ·rw [if_pos h2, if_pos h2, if_pos (by omega), if_pos (by omega)]; rfl
  ·rw [if_neg h2, if_neg h2]; rfl
 ·rw [if_neg (by omega), decide_eq_false h]
  rfl
abbrev IsSt (w : World) (x d : Nat) : Prop := w.heap[x]? = some (.cells #[.pointer (some ⟨d, 0, none⟩)] 46 (0, 0))
theorem All_calls {w : World} {x d : Nat} {ok : Nat → Prop} {st : DK} (hx : IsSt w x d) (h : IsD w d ok st) (hd : st.down = false) (hr : Rises st.now) (hn : Named st.now) (hl : st.now.length ≤ 1000000) :
  Calls Tryd.prog 23 #[.pointer (some ⟨x, 0, none⟩)] w fun e w' => ∃ v, e = .returned v ∧ Kd.string.R 9 w' w.heap.size (fun k => w.heap.size ≤ k) v (allX st.now) ∧ Below w.heap.size w w' := by
 have hu := Tryd.underlying46
 have hc0 : w.cell? ⟨x, 0, none⟩ = some (.pointer (some ⟨d, 0, none⟩)) := (blk_cell hx 0).trans rfl
 have H := Aside0.mk h
 have HD := Aside0.mk hd
 have HR := Aside0.mk hr
 have HNM := Aside0.mk hn
 have HL := Aside0.mk hl
 clear h hd hr hn hl hx
 go_enter Tryd.func23, Tryd.ntmps23
 go_wp2_with (fail)
 refine (names_calls H.out HD.out HR.out (by have := HL.out; omega)).mono ?_
 rintro e w1 ⟨v, rfl, hR, hb⟩
 obtain ⟨A, c, rfl, hlc, hC⟩ := Kd.R_reads hR
 have hln : (namesF st.now).length = st.now.length := List.length_map ..
 rw [hln] at hC ⊢
 have B1 := Aside0.mk hb
 obtain ⟨n, hn⟩ : ∃ n, n = st.now.length := ⟨_, rfl⟩
 have HNN := Aside0.mk hn
 rw [← hn] at hC ⊢
 have HC := Aside0.mk hC
 clear hR hb hC hln hlc hn hc0 hu
 go_wp2_with (fail)
 go_loopg [3, 16] (n + 1) (fun kq v3 v16 w' => ∃ (j : Nat), v16 = .int .i64 (j : Int) ∧ Aside0 (j + kq = n + 1 ∧ j ≤ n) ∧ Aside0 (Kd.string.R 9 w' w1.heap.size (fun k => w1.heap.size ≤ k) v3 (allX (st.now.take j))) ∧ Aside0 (Below w1.heap.size w1 w'))
 case atStart => exact ⟨0, rfl, ⟨by omega, by omega⟩, ⟨Kd.R_nil _ _ _ _ _⟩, ⟨Below.refl _ _⟩⟩
 case round =>
  obtain ⟨j, rfl, HJ, HR3, HB⟩ := hrel
  cases gk with
  | zero => have := HJ.out; omega
  | succ k1 =>
   by_cases hj : j < n
   ·have hlt : ((j : Int) < (n : Int)) = True := eq_true (by omega)
    have hj2 : j < st.now.length := by have := HNN.out; omega
    obtain ⟨p, hp⟩ : ∃ p, st.now[j]? = some p := ⟨_, List.getElem?_eq_getElem hj2⟩
    have hmem : p ∈ st.now := List.mem_of_getElem? hp
    have hrd : rdOf ByteArray.empty (namesF st.now) (j : Int) = p.1 := by
     unfold rdOf namesF
     rw [Int.toNat_natCast, List.getD_eq_getElem?_getD, List.getElem?_map, hp]
     rfl
    have HSC := Aside0.mk (allX_succ hp)
    have HSZ : Aside0 (p.1.size ≤ 80) := ⟨(nameS_iff.1 (HNM.out p hmem)).2.2⟩
    have HCP := Aside0.mk (cut_pre p.1)
    obtain ⟨ad, e, h0⟩ := (Kd.reads_of_C (enc := Value.string) (d := ByteArray.empty) (Kd.C_below HC.out HB.out)).at_ (j : Int) (by omega) (by omega)
    rw [Int.toNat_natCast, hrd] at h0
    subst e
    clear hp hmem hj2 hrd
    go_wp2_with (fail)
    cases hq : preB p.1 with
    | false =>
     refine (strings_CutPrefix.calls p.1 nE p.1 false _ (by rw [HCP.out, if_neg (by rw [hq]; simp)])).mono ?_
     rintro e w2 ⟨rfl, ⟨nd, rfl⟩⟩
     have HS2 : Aside0 (allX (st.now.take (j + 1)) = allX (st.now.take j)) := ⟨by rw [HSC.out, if_neg (by rw [isX_pre, hq]; simp), List.append_nil]⟩
     clear hq h0
     go_wp2_with (fail)
     go_roundg k1
     case measure => have := HJ.out; omega
     case rel => exact ⟨j + 1, by rw [IntWalk.wrap64_in _ (by have := HL.out; have := HNN.out; omega)]; rfl, ⟨by have := HJ.out; omega, by omega⟩, ⟨by rw [HS2.out]; exact Kd.R_drewN HR3.out _⟩, ⟨pw_below_drewN HB.out _⟩⟩
    | true =>
     refine (strings_CutPrefix.calls p.1 nE (idX p.1) true _ (by rw [HCP.out, if_pos hq])).mono ?_
     rintro e w2 ⟨rfl, ⟨nd, rfl⟩⟩
     have HID : Aside0 ((idX p.1).size ≤ 80) := ⟨by have := HSZ.out; rw [ByteArray.size_extract]; omega⟩
     have R2 := Aside0.mk (Kd.R_drewN HR3.out nd)
     have B2 := Aside0.mk (pw_below_drewN HB.out nd)
     have HQ := Aside0.mk hq
     have h0' : (wr.drewN nd).cell? (ad.add j) = some (.string p.1) := (drewN_cell _ _ _).trans h0
     clear hq h0 HR3 HB
     have HCE : Aside0 (True) := ⟨trivial⟩
     generalize wr.drewN nd = w3 at R2 B2 h0' ⊢
     generalize hid : idX p.1 = id at HID HSC ⊢
     have HIDE := Aside0.mk hid
     clear hid
     go_wp2_with (fail)
     refine (may_calls id (by have := HID.out; omega) w3).mono ?_
     rintro e w4 ⟨rfl, hb⟩
     have B4 := Aside0.mk (below_step B2.out hb)
     have R4 := Aside0.mk (Kd.R_below R2.out hb)
     clear hb R2 h0'
     obtain ⟨ad', e, h1⟩ := (Kd.reads_of_C (enc := Value.string) (d := ByteArray.empty) (Kd.C_below HC.out B4.out)).at_ (j : Int) (by omega) (by omega)
     injection e with e
     subst e
     cases hm : mayS id with
     | false =>
      have HS2 : Aside0 (allX (st.now.take (j + 1)) = allX (st.now.take j)) := ⟨by rw [HSC.out, if_neg (by rw [isX_pre, HIDE.out, hm]; simp), List.append_nil]⟩
      clear hm h1
      go_wp2_with (fail)
      go_roundg k1
      case measure => have := HJ.out; omega
      case rel => exact ⟨j + 1, by rw [IntWalk.wrap64_in _ (by have := HL.out; have := HNN.out; omega)]; rfl, ⟨by have := HJ.out; omega, by omega⟩, ⟨by rw [HS2.out]; exact R4.out⟩, B4⟩
     | true =>
      have HS2 : Aside0 (allX (st.now.take (j + 1)) = allX (st.now.take j) ++ [id]) := ⟨by rw [HSC.out, if_pos (by rw [isX_pre, HQ.out, HIDE.out, hm]; rfl)]⟩
      have HLN : Aside0 ((allX (st.now.take j)).length ≤ 1000000) := ⟨by have h1 := allX_len (st.now.take j); rw [List.length_take] at h1; have := HL.out; omega⟩
      clear hm h1
      go_wp2_with (first | ((with_reducible refine gate_builtin (b := .append) (xs := #[.tmp 30, .tmp 32]) rfl ?_); at_builtin; refine Kd.R_append Kd.string (w0 := w1) w1.heap.size rfl (.tmp 30) (.tmp 32) 25 9 (.string ⟨#[]⟩) 16 rfl Tryd.underlying25 info9 rfl (by decide) (by omega) u3 (allX (st.now.take j)) id [.string id] (fun k => w1.heap.size ≤ k) (fun _ => False) rfl rfl rfl (fun _ hk => hk.elim) (fun k hk => Nat.le_trans B4.out.size hk) R4.out B4.out B4.out.size ?aL ?_; (case aL => have := HLN.out; omega); intro v5 w5 ho hb hg hat; have HO5 := Aside0.mk ho; have HB5 := Aside0.mk hb; clear ho hb hg hat))
      go_roundg k1
      case measure => have := HJ.out; omega
      case rel => exact ⟨j + 1, by rw [IntWalk.wrap64_in _ (by have := HL.out; have := HNN.out; omega)]; rfl, ⟨by have := HJ.out; omega, by omega⟩, ⟨by rw [HS2.out]; exact HO5.out⟩, HB5⟩
   ·obtain rfl : j = n := by have := HJ.out; omega
    have hlt : ((j : Int) < (j : Int)) = False := eq_false (by omega)
    go_wp2
    go_ret
    refine ⟨_, rfl, ?_, B1.out.trans (HB.out.mono B1.out.size)⟩
    have h := HR3.out
    rw [HNN.out, List.take_length] at h
    exact Kd.R_mono (Kd.R_lower h B1.out.size) (fun k hk => Nat.le_trans B1.out.size hk)
/-! a store on an idle disk: what its calls make of the files -/
abbrev eId (id : ByteArray) : ByteArray := nE ++ id
noncomputable def getX (l : Fs) (id : ByteArray) : ByteArray × Int :=
 if mayS id = true then (if hasF l (eId id) = true then (if rightS id (getF l (eId id)) = true then (jointS (getF l (eId id)), 0) else (⟨#[]⟩, 10)) else (⟨#[]⟩, 4)) else (⟨#[]⟩, 1)
noncomputable def hasX (l : Fs) (id : ByteArray) : Bool := decide ((getX l id).2 = 0)
noncomputable def putX (l : Fs) (s : ByteArray) : Fs := if s.size = 0 ∨ 4096 < s.size ∨ hasX l (idS s) = true then l else putF l (eId (idS s)) (laidS s)
noncomputable def putI (s : ByteArray) : ByteArray := if s.size = 0 ∨ 4096 < s.size then ⟨#[]⟩ else idS s
def putE (s : ByteArray) : Int := if s.size = 0 then 1 else if 4096 < s.size then 2 else 0
def Sml (l : Fs) : Prop := ∀ p ∈ l, p.2.size ≤ 1000000000
structure Env (w : World) (x d : Nat) (ok : Nat → Prop) : Prop where
 tab : InG w
 no0 : ¬ ok 0
 new : ∀ k, w.heap.size ≤ k → ok k
 blk : IsSt w x d
 nox : ¬ ok x
theorem Env.lt {w : World} {x d : Nat} {ok : Nat → Prop} (h : Env w x d ok) : x < w.heap.size := lt_of_some h.blk
theorem InG.kp {w w' : World} {ok : Nat → Prop} (h : InG w) (h0 : ¬ ok 0) (hk : Kp ok w w') : InG w' := fun n hn => (World.cell?_of_block (hk.block 0 h.pos h0)).trans (h n hn)
theorem Env.keep {w w' : World} {x d : Nat} {ok : Nat → Prop} (h : Env w x d ok) (hk : Kp ok w w') : Env w' x d ok :=
 ⟨h.tab.kp h.no0 hk, h.no0, fun k hs => h.new k (Nat.le_trans hk.size hs), (hk.block x h.lt h.nox).trans h.blk, h.nox⟩
theorem Env.below {w w' : World} {x d : Nat} {ok : Nat → Prop} (h : Env w x d ok) (hb : Below w.heap.size w w') : Env w' x d ok := h.keep (Kp.of_below hb)
/-- a store x on an idle disk d with the files l, behind at most i changes -/
structure Sto (w : World) (x d : Nat) (ok : Nat → Prop) (i : Nat) (l : Fs) (n : Int) : Prop where
 env : Env w x d ok
 disk : IsD w d ok (idl l n)
 good : Good i (idl l n)
 sml : Sml l
theorem Sto.below {w w' : World} {x d : Nat} {ok : Nat → Prop} {i : Nat} {l : Fs} {n : Int} (h : Sto w x d ok i l n) (hb : Below w.heap.size w w') : Sto w' x d ok i l n := ⟨h.env.below hb, h.disk.below hb, h.good, h.sml⟩
theorem getF_small {l : Fs} (h : Sml l) (n : ByteArray) : (getF l n).size ≤ 1000000000 := by
 unfold getF
 cases hf : l.find? (fun p => sameN p.1 n) with
 | none => decide
 | some p => exact h p (List.mem_of_find?_eq_some hf)
theorem read_idl (l : Fs) (n : Int) {nm : ByteArray} (h : nameS nm = true) : readE (idl l n) nm = (if hasF l nm = true then 0 else 4) ∧ readS (idl l n) nm = (if hasF l nm = true then getF l nm else ⟨#[]⟩) := by
 have h0 : askE (idl l n).down [nm] = 0 := by
  unfold askE idl
  rw [if_neg (by simp), if_pos (by rw [List.all_cons, h]; rfl)]
 have h1 : readE (idl l n) nm = (if hasF l nm = true then 0 else 4) := by unfold readE; rw [if_pos h0]; rfl
 refine ⟨h1, ?_⟩
 unfold readS
 rw [h1]
 by_cases hh : hasF l nm = true
 ·rw [if_pos hh, if_pos rfl, if_pos hh]; rfl
 ·rw [if_neg hh, if_neg (by decide), if_neg hh]
theorem Get_calls {w : World} {x d : Nat} {ok : Nat → Prop} {i : Nat} {l : Fs} {n : Int} (h : Sto w x d ok i l n) (id : ByteArray) (hs : id.size ≤ 140737488351232) :
  Calls Tryd.prog 15 #[.pointer (some ⟨x, 0, none⟩), .string id] w fun e w' => e = .returned (.tuple #[.string (getX l id).1, .int .i64 (getX l id).2]) ∧ Below w.heap.size w w' := by
 have hu := Tryd.underlying46
 have H := Aside0.mk h
 have HS := Aside0.mk hs
 clear h hs
 go_enter Tryd.func15, Tryd.ntmps15
 go_wp2_with (fail)
 refine (may_calls id HS.out w).mono ?_
 rintro e w1 ⟨rfl, hb⟩
 have B1 := Aside0.mk hb
 have H1 := Aside0.mk (H.out.below hb)
 clear hb
 cases hm : mayS id with
 | false =>
  have HE : Aside0 (getX l id = (⟨#[]⟩, 1)) := ⟨by unfold getX; rw [if_neg (by rw [hm]; simp)]⟩
  clear hm
  go_wp2
  go_ret2
  exact ⟨by rw [HE.out]; rfl, B1.out⟩
 | true =>
  have HM := Aside0.mk hm
  have hc0 : w1.cell? ⟨x, 0, none⟩ = some (.pointer (some ⟨d, 0, none⟩)) := (blk_cell H1.out.env.blk 0).trans rfl
  have hsz : ((⟨#[101, 46]⟩ : ByteArray).size + id.size > 9223372036854775807) = False := eq_false (by have := HS.out; have e : (⟨#[101, 46]⟩ : ByteArray).size = 2 := rfl; omega)
  have hsz2 : (2 + id.size > 9223372036854775807) = False := eq_false (by have := HS.out; omega)
  have hsz3 : (9223372036854775807 < 2 + id.size) = False := eq_false (by have := HS.out; omega)
  clear hm
  go_wp2_with (fail)
  refine (read_calls H1.out.disk (nE ++ id) (by rw [eId_size]; have := HS.out; omega)).mono ?_
  rintro e w2 ⟨rfl, hb⟩
  have B2 := Aside0.mk (below_step B1.out hb)
  have H2 := Aside0.mk (H1.out.below hb)
  clear hb hc0
  rw [(read_idl l n (may_name HM.out)).1, (read_idl l n (may_name HM.out)).2]
  cases hh : hasF l (nE ++ id) with
  | false =>
   have HE : Aside0 (getX l id = (⟨#[]⟩, 4)) := ⟨by unfold getX; rw [if_pos HM.out, if_neg (by show ¬ hasF l (nE ++ id) = true; rw [hh]; simp)]⟩
   clear hh hsz hsz2 hsz3
   rw [if_neg (by simp), if_neg (by simp)]
   go_wp2
   go_ret2
   exact ⟨by rw [HE.out]; rfl, B2.out⟩
  | true =>
   have HH := Aside0.mk hh
   clear hh hsz hsz2 hsz3
   rw [if_pos rfl, if_pos rfl]
   go_wp2_with (fail)
   refine (read_calls' id (getF l (nE ++ id)) (getF_small H2.out.sml _) w2 H2.out.env.tab).mono ?_
   rintro e w3 ⟨rfl, hb⟩
   have B3 := Aside0.mk (below_step B2.out hb)
   clear hb
   cases hr : rightS id (getF l (nE ++ id)) with
   | false =>
    have HE : Aside0 (getX l id = (⟨#[]⟩, 10)) := ⟨by unfold getX; rw [if_pos HM.out, if_pos HH.out, if_neg (by rw [hr]; simp)]⟩
    clear hr
    go_wp2
    go_ret2
    exact ⟨by rw [HE.out]; rfl, B3.out⟩
   | true =>
    have HE : Aside0 (getX l id = (jointS (getF l (nE ++ id)), 0)) := ⟨by unfold getX; rw [if_pos HM.out, if_pos HH.out, if_pos hr]⟩
    clear hr
    go_wp2
    go_ret2
    exact ⟨by rw [HE.out]; rfl, B3.out⟩
theorem Has_calls {w : World} {x d : Nat} {ok : Nat → Prop} {i : Nat} {l : Fs} {n : Int} (h : Sto w x d ok i l n) (id : ByteArray) (hs : id.size ≤ 140737488351232) :
  Calls Tryd.prog 26 #[.pointer (some ⟨x, 0, none⟩), .string id] w fun e w' => e = .returned (.bool (hasX l id)) ∧ Below w.heap.size w w' := by
 have H := Aside0.mk h
 have HS := Aside0.mk hs
 clear h hs
 go_enter Tryd.func26, Tryd.ntmps26
 go_wp2_with (fail)
 refine (Get_calls H.out id HS.out).mono ?_
 rintro e w1 ⟨rfl, hb⟩
 have B1 := Aside0.mk hb
 clear hb
 have HE : Aside0 (hasX l id = ((getX l id).2 == 0)) := ⟨rfl⟩
 generalize (getX l id).2 = q at HE ⊢
 go_wp2
 go_ret
 exact ⟨by rw [HE.out]; rfl, B1.out⟩
/-! files that are taken away, one by one -/
def delsF (l : Fs) (gs : List ByteArray) : Fs := gs.foldl delF l
theorem mem_dels : ∀ {gs : List ByteArray} {l : Fs} {p : ByteArray × ByteArray}, p ∈ delsF l gs ↔ p ∈ l ∧ p.1 ∉ gs
 | [], l, p => by simp [delsF]
 | g :: gs, l, p => by
  show p ∈ delsF (delF l g) gs ↔ _
  rw [mem_dels, mem_delF, List.mem_cons, not_or]
  constructor
  ·rintro ⟨⟨h1, h2⟩, h3⟩; exact ⟨h1, h2, h3⟩
  ·rintro ⟨h1, h2, h3⟩; exact ⟨⟨h1, h2⟩, h3⟩
theorem dels_snoc (l : Fs) (gs : List ByteArray) (g : ByteArray) : delsF l (gs ++ [g]) = delF (delsF l gs) g := by unfold delsF; rw [List.foldl_append]; rfl
theorem dels_has {gs : List ByteArray} {l : Fs} {g : ByteArray} (h : hasF l g = true) (hn : g ∉ gs) : hasF (delsF l gs) g = true := by
 obtain ⟨p, hp, e⟩ := hasF_iff.1 h
 exact hasF_iff.2 ⟨p, mem_dels.2 ⟨hp, by rw [e]; exact hn⟩, e⟩
theorem dels_rises : ∀ (gs : List ByteArray) {l : Fs}, Rises l → Rises (delsF l gs)
 | [], _, h => h
 | g :: gs, _, h => dels_rises gs (delF_rises g h)
def isIn (gs : List ByteArray) (n : ByteArray) : Bool := gs.any (fun g => sameN g n)
theorem isIn_iff {gs : List ByteArray} {n : ByteArray} : isIn gs n = true ↔ n ∈ gs := by
 unfold isIn
 rw [List.any_eq_true]
 exact ⟨fun ⟨g, hg, h⟩ => sameN_iff.1 h ▸ hg, fun h => ⟨n, h, sameN_iff.2 rfl⟩⟩
theorem dels_eq {l : Fs} (h : Rises l) (gs : List ByteArray) : delsF l gs = l.filter (fun p => !isIn gs p.1) := by
 refine rises_ext (dels_rises gs h) (List.Pairwise.filter _ h) (fun p => ?_)
 rw [mem_dels, List.mem_filter, Bool.not_eq_true', ← Bool.not_eq_true, isIn_iff]
theorem Sml.dels {l : Fs} (h : Sml l) (gs : List ByteArray) : Sml (delsF l gs) := fun p hp => h p (mem_dels.1 hp).1
def mid (l now : Fs) (ws : List Chg) (n : Int) : DK := ⟨l, now, ws, n, false, [], -1⟩
theorem mid_remove {l now : Fs} {ws : List Chg} {n : Int} {a : ByteArray} (ha : nameS a = true) (hh : hasF now a = true) : removeK (mid l now ws n) a = (mid l (delF now a) (ws ++ [⟨3, a, ⟨#[]⟩, ⟨#[]⟩, 0⟩]) (n + 1), 0) := by
 unfold removeK
 rw [if_pos (show askE (mid l now ws n).down [a] = 0 by unfold askE mid; rw [if_neg (by simp), if_pos (by rw [List.all_cons, ha]; rfl)]), if_pos (show hasF (mid l now ws n).now a = true from hh)]
 rw [changeK_none (show hitI (mid l now ws n) = none from rfl)]
 rfl
theorem row_keep {α : Type} {D : Kd α} {e : Nat} {w : World} {base : Nat} {okr ok : Nat → Prop} {v : Value} {xs : List α} (hR : D.R e w base okr v xs) (hno : ∀ k, okr k → k < w.heap.size → ¬ ok k) : ∀ w', Kp ok w w' → D.R e w' base okr v xs :=
 fun w' hk => Kd.R_step hR (fun k h1 h2 => hk.block k h2 (hno k h1 h2))
theorem remove_st {w : World} {x d : Nat} {ok : Nat → Prop} {i : Nat} {l : Fs} {n : Int} (h : Sto w x d ok i l n) (A : Option Addr) (c : Nat) (gs : List ByteArray)
  (hC : ∀ w', Kp ok w w' → Kd.C Kd.string w' A gs.length gs) (hi : i + gs.length ≤ 900) (hg : ∀ g ∈ gs, nameS g = true) (hnd : gs.Nodup) (hin : ∀ g ∈ gs, hasF l g = true) :
  Calls Tryd.prog 25 #[.pointer (some ⟨x, 0, none⟩), .slice A gs.length c] w fun e w' => e = .returned (.int .i64 0) ∧ Sto w' x d ok (i + gs.length) (delsF l gs) (n + gs.length) ∧ Kp ok w w' := by
 have hu := Tryd.underlying46
 have H := Aside0.mk h
 have HC := Aside0.mk hC
 have HI := Aside0.mk hi
 have HGN := Aside0.mk hg
 have HND := Aside0.mk hnd
 have HIN := Aside0.mk hin
 clear h hC hi hg hnd hin
 obtain ⟨m, hm⟩ : ∃ m, m = gs.length := ⟨_, rfl⟩
 have HM := Aside0.mk hm
 rw [← hm] at HC HI ⊢
 clear hm
 go_enter Tryd.func25, Tryd.ntmps25
 go_wp2_with (fail)
 go_loopg [10] (m + 1) (fun kq v10 w' => ∃ (j : Nat), v10 = .int .i64 (j : Int) ∧ Aside0 (j + kq = m + 1 ∧ j ≤ m) ∧ Aside0 (∃ ws, IsD w' d ok (mid l (delsF l (gs.take j)) ws (n + j)) ∧ Good (i + j) (mid l (delsF l (gs.take j)) ws (n + j)) ∧ (j = 0 → ws = [])) ∧ Aside0 (Kp ok w w'))
 case atStart => exact ⟨0, rfl, ⟨by omega, by omega⟩, ⟨[], by rw [show n + ((0 : Nat) : Int) = n by omega]; exact H.out.disk, by rw [show n + ((0 : Nat) : Int) = n by omega]; exact H.out.good, fun _ => rfl⟩, ⟨Kp.refl _ _⟩⟩
 case round =>
  obtain ⟨j, rfl, HJ, HD, HK⟩ := hrel
  have E := Aside0.mk (H.out.env.keep HK.out)
  have hcx : wr.cell? ⟨x, 0, none⟩ = some (.pointer (some ⟨d, 0, none⟩)) := (blk_cell E.out.blk 0).trans rfl
  cases gk with
  | zero => have := HJ.out; omega
  | succ k1 =>
   by_cases hj : j < m
   ·have hlt : ((j : Int) < (m : Int)) = True := eq_true (by omega)
    have hj2 : j < gs.length := by have := HM.out; omega
    obtain ⟨g, hgx⟩ : ∃ g, gs[j]? = some g := ⟨_, List.getElem?_eq_getElem hj2⟩
    have hmem : g ∈ gs := List.mem_of_getElem? hgx
    have hrd : rdOf ByteArray.empty gs (j : Int) = g := by
     unfold rdOf
     rw [Int.toNat_natCast, List.getD_eq_getElem?_getD, hgx]
     rfl
    obtain ⟨ad, e, h0⟩ := (Kd.reads_of_C (enc := Value.string) (d := ByteArray.empty) (HC.out wr HK.out)).at_ (j : Int) (by omega) (by omega)
    rw [Int.toNat_natCast, hrd] at h0
    have HTK : Aside0 (gs.take (j + 1) = gs.take j ++ [g]) := ⟨by
     obtain ⟨hl, hx⟩ := List.getElem?_eq_some_iff.1 hgx
     rw [List.take_succ_eq_append_getElem hl, hx]⟩
    have HNI : Aside0 (g ∉ gs.take j) := ⟨by
     intro hh
     have hnd := HND.out
     rw [← List.take_append_drop (j + 1) gs, HTK.out] at hnd
     have h1 := (List.nodup_append.1 (List.nodup_append.1 hnd).1).2.2 g hh g (List.mem_singleton.2 rfl)
     exact h1 rfl⟩
    have HGX := Aside0.mk (HGN.out g hmem)
    have HHX := Aside0.mk (dels_has (HIN.out g hmem) HNI.out)
    obtain ⟨ws, hD, hGd, _⟩ := HD.out
    have D1 := Aside0.mk hD
    have G1 := Aside0.mk hGd
    subst e
    clear hgx hmem hj2 hrd hD hGd HD
    go_wp2_with (fail)
    refine (remove_calls D1.out (fun k hk => E.out.new k hk) g (Nat.le_trans (nameS_iff.1 HGX.out).2.2 (by decide)) (fun _ _ _ => G1.out.can (by have := HI.out; omega) (G1.out.okc (by have := HI.out; omega) (by decide) (Nat.le_trans (nameS_iff.1 HGX.out).2.2 (by decide)) (by decide) (by decide) (fun e => absurd e (by decide))))).mono ?_
    rintro e w2 ⟨rfl, hI, hK⟩
    rw [mid_remove HGX.out HHX.out] at hI ⊢
    have G2 : Aside0 (Good (i + (j + 1)) (mid l (delF (delsF l (gs.take j)) g) (ws ++ [⟨3, g, ⟨#[]⟩, ⟨#[]⟩, 0⟩]) (n + j + 1))) := ⟨by
     have := G1.out.call (k := 3) (a := g) (b := ⟨#[]⟩) (s := ⟨#[]⟩) (n := 0) (by have := HI.out; omega) (by decide) (Nat.le_trans (nameS_iff.1 HGX.out).2.2 (by decide)) (by decide) (by decide)
     unfold callK at this
     rw [if_neg (by decide), if_neg (by decide), if_neg (by decide), if_pos rfl, mid_remove HGX.out HHX.out] at this
     exact this⟩
    have D2 := Aside0.mk hI
    have K2 := Aside0.mk (HK.out.trans hK)
    clear hI hK h0 D1 G1
    go_wp2_with (fail)
    go_roundg k1
    case measure => have := HJ.out; omega
    case rel =>
     refine ⟨j + 1, by rw [IntWalk.wrap64_in _ (by have := HI.out; omega)]; rfl, ⟨by have := HJ.out; omega, by omega⟩, ⟨ws ++ [⟨3, g, ⟨#[]⟩, ⟨#[]⟩, 0⟩], ?_, ?_, fun e => by omega⟩, K2⟩
     ·rw [HTK.out, dels_snoc, show n + ((j + 1 : Nat) : Int) = n + j + 1 by omega]
      exact D2.out
     ·rw [HTK.out, dels_snoc, show n + ((j + 1 : Nat) : Int) = n + j + 1 by omega]
      exact G2.out
   ·obtain rfl : j = m := by have := HJ.out; omega
    have hlt : ((j : Int) < (j : Int)) = False := eq_false (by omega)
    obtain ⟨ws, hD, hGd, hw⟩ := HD.out
    rw [HM.out, List.take_length] at hD hGd
    have D1 := Aside0.mk hD
    have G1 := Aside0.mk hGd
    clear hD hGd HD
    by_cases h0 : 0 < j
    ·have h0' : (0 < j) = True := eq_true h0
     clear h0 hw
     go_wp2_with (fail)
     refine (sync_calls D1.out (fun k hk => E.out.new k hk)).mono ?_
     rintro e w2 ⟨rfl, hI, hK⟩
     rw [show syncE (mid l (delsF l gs) ws (n + gs.length)) = 0 from (syncK_up rfl).2]
     rw [show syncK (mid l (delsF l gs) ws (n + gs.length)) = idl (delsF l gs) (n + gs.length) from (syncK_up rfl).1] at hI
     have G2 : Aside0 (Good (i + gs.length) (idl (delsF l gs) (n + gs.length))) := ⟨by
      have := G1.out.sync.1
      rw [show syncK (mid l (delsF l gs) ws (n + gs.length)) = idl (delsF l gs) (n + gs.length) from (syncK_up rfl).1] at this
      exact this⟩
     have D2 := Aside0.mk hI
     have K2 := Aside0.mk (HK.out.trans hK)
     clear hI hK
     go_wp2
     go_ret
     exact ⟨rfl, ⟨H.out.env.keep K2.out, by rw [HM.out]; exact D2.out, by rw [HM.out]; exact G2.out, H.out.sml.dels gs⟩, K2.out⟩
    ·have h0' : (0 < j) = False := eq_false h0
     have hz : gs = [] := List.length_eq_zero_iff.1 (by have := HM.out; omega)
     have HZ := Aside0.mk hz
     have HW := Aside0.mk (hw (by omega))
     clear h0 hw hz
     go_wp2
     go_ret
     refine ⟨rfl, ⟨H.out.env.keep HK.out, ?_, ?_, H.out.sml.dels gs⟩, HK.out⟩
     ·have := D1.out; rw [HW.out] at this; rw [HM.out, HZ.out] at *; exact this
     ·have := G1.out; rw [HW.out] at this; rw [HM.out, HZ.out] at *; exact this
end Go.Proofs.YtdeakccaecphlaaDoor.Q
