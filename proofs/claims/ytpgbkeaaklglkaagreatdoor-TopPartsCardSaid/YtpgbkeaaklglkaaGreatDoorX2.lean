
/- An extent's id; what an id's file has. -/
import Derived.Test.YtpgbkeaaklglkaaGreatDoorXr
import Derived.Deep.DeepCutAuto
import Derived.Outline
import Derived.Test.YtpgbkeaaklglkaaGreatDoorX1
namespace Go.Proofs.YtpgbkeaaklglkaaGreatDoor.Q
open Go.Maps Go.WideShapes Go.WideMaps Go.RowKit Go.Proofs.YtpgbkeaaklglkaaGreatDoorW.PrintWords Go.Proofs.YtpgbkeaaklglkaaGreatDoorW.PrintLast Go.Proofs.YtpgbkeaaklglkaaGreatDoorW.PrintMore
set_option linter.unusedVariables false
set_option linter.unusedSimpArgs false
set_option maxHeartbeats 10000000
set_option maxRecDepth 100000
/-! an extent's id -/
noncomputable def tagS (s : ByteArray) : ByteArray := sha (strOfNums (tagB 69 [s]))
noncomputable def idS (s : ByteArray) : ByteArray := hexF (tagS s)
theorem sha_size (t : ByteArray) : (sha t).size = 32 := by
 unfold sha shaOf
 rw [strOfNums_size, outs_len]
 have h := foldB_in (s := initS) (xs := bytesOf t ++ tailB (bytesOf t).length t.size) ⟨rfl, initS_in⟩ (tailB_range (bytes_in t)) ((bytesOf t ++ tailB (bytesOf t).length t.size).length / 64) (by omega)
 rw [h.1]
theorem tagS_size (s : ByteArray) : (tagS s).size = 32 := sha_size _
theorem idS_may (s : ByteArray) : mayS (idS s) = true := mayS_hex (tagS_size s)
theorem idS_size (s : ByteArray) : (idS s).size = 64 := (mayS_iff.1 (idS_may s)).2
theorem lenS_one (s : ByteArray) : lenS [s] = s.size + 8 := by simp [lenS]
theorem ID_calls (s : ByteArray) (hs : s.size ≤ 1000000000) (w : World) (hG : InG w) : Calls Tryz.prog 38 #[.string s] w fun e w' => e = .returned (.string (idS s)) ∧ Below w.heap.size w w' := by
 have HS := Aside0.mk hs
 have HG := Aside0.mk hG
 clear hs hG
 go_enter Tryz.func38, Tryz.ntmps38
 go_wp2_with (fail)
 have b1 : Below w.heap.size w (w.alloc (.cells #[.string s] 9 (0, 0))) := below_alloc (Below.refl _ _) _
 have hC := str1 w s
 have HC := Aside0.mk hC
 have B1 := Aside0.mk b1
 clear hC b1
 generalize w.alloc (.cells #[.string s] 9 (0, 0)) = w1 at HC B1 ⊢
 refine (digest_Tagged.calls 69 (by decide) (some ⟨w.heap.size, 0, none⟩) 1 [s] w1 HC.out (HG.out.below B1.out) (fun t ht => by rw [List.mem_singleton] at ht; rw [ht]; have := HS.out; omega)).mono ?_
 rintro e w2 ⟨rfl, hb⟩
 rw [sha_tag 69 (by decide) [s] (by rw [lenS_one]; have := HS.out; omega)]
 have B2 := Aside0.mk (below_step B1.out hb)
 clear hb
 go_wp2_with (fail)
 refine (digest_Hex.calls (sha (strOfNums (tagB 69 [s]))) w2 (by rw [sha_size]; decide)).mono ?_
 rintro e w3 ⟨rfl, hb⟩
 have B3 := Aside0.mk (below_step B2.out hb)
 clear hb
 go_wp2
 go_ret
 exact ⟨rfl, B3.out⟩
theorem ref_id (s : ByteArray) (hs : s.size ≤ 1000000000) (k : Nat) (hk : 1000 < k) : stowageref06_ID.f k s = some (idS s) := by
 unfold stowageref06_ID.f
 rw [refTagged_eq 69 (by decide) [s] (by simp) (by rw [lenS_one]; omega) k (by simp; omega), Option.bind_some, refHex_eq _ (by rw [sha_size]; decide) k (by rw [sha_size]; omega)]
 rfl
theorem may_calls (id : ByteArray) (hs : id.size ≤ 140737488351232) (w : World) : Calls Tryz.prog 35 #[.string id] w fun e w' => e = .returned (.bool (mayS id)) ∧ Below w.heap.size w w' := by
 have HS := Aside0.mk hs
 clear hs
 go_enter Tryz.func35, Tryz.ntmps35
 go_wp2_with (fail)
 refine (digest_Unhex.calls id w HS.out).mono ?_
 rintro e w1 ⟨rfl, hb⟩
 have B1 := Aside0.mk hb
 clear hb
 by_cases h : okHex id
 ·have he : mayS id = decide (((valsL id (id.size / 2)).length : Nat) = 32) := by
   unfold mayS
   rw [unhex_ok h]
   simp only [true_and, strOfNums_size]
  rw [unhex_ok h]
  have HE := Aside0.mk he
  have hz : (strOfNums (valsL id (id.size / 2))).size = (valsL id (id.size / 2)).length := strOfNums_size _
  generalize (valsL id (id.size / 2)) = vs at hz HE ⊢
  generalize strOfNums vs = t at hz ⊢
  clear he h
  by_cases h2 : vs.length = 32
  ·have q : ((t.size : Int) == 32) = true := beq_iff_eq.2 (by omega)
   have HE2 : Aside0 (mayS id = true) := ⟨by rw [HE.out, h2]; rfl⟩
   clear hz h2
   go_wp2
   go_ret
   exact ⟨by rw [HE2.out]; rfl, B1.out⟩
  ·have q : ((t.size : Int) == 32) = false := beq_eq_false_iff_ne.2 (by omega)
   have HE2 : Aside0 (mayS id = false) := ⟨by rw [HE.out]; exact decide_eq_false h2⟩
   clear hz h2
   go_wp2
   go_ret
   exact ⟨by rw [HE2.out]; rfl, B1.out⟩
 ·have HE : Aside0 (mayS id = false) := ⟨by unfold mayS; rw [unhex_bad h]; rfl⟩
  rw [unhex_bad h]
  clear h
  go_wp2
  go_ret
  exact ⟨by rw [HE.out]; rfl, B1.out⟩
/-! strings.Join with nothing between -/
theorem R_str {w : World} {base : Nat} {ok : Nat → Prop} {v : Value} {l : List ByteArray} (h : Kd.string.R 9 w base ok v l) : (v = .slice none 0 0 ∧ l = []) ∨ ∃ g c, v = .slice (some ⟨g, 0, none⟩) l.length c ∧ l.length ≤ c ∧ g < w.heap.size ∧ ∀ (j : Nat) x, l[j]? = some x → w.cell? ⟨g, 0 + j, none⟩ = some (.string x) := by
 have h0 := h
 obtain ⟨_, inner, ho, hr⟩ := h0
 obtain ⟨A, c, e, hc, hC⟩ := Kd.R_reads h
 subst e
 rcases ho.2 with ⟨e, hn⟩ | ⟨g, cap, cur, e, _, hg, _⟩
 ·injection e with e1 e2 e3
  subst e1 e3
  exact Or.inl ⟨by rw [hn], List.length_eq_zero_iff.1 hn⟩
 ·injection e with e1 e2 e3
  subst e1 e3
  refine Or.inr ⟨g, c, rfl, hc, (Array.getElem?_eq_some_iff.1 hg).1, fun j x hx => ?_⟩
  obtain ⟨hlt, hv⟩ := List.getElem?_eq_some_iff.1 hx
  obtain ⟨ad, e, hcell⟩ := (Kd.reads_of_C (enc := Value.string) (d := ByteArray.empty) hC).at_ (j : Int) (by omega) (by omega)
  injection e with e
  subst e
  rw [Int.toNat_natCast] at hcell
  have : rdOf ByteArray.empty l (j : Int) = x := by
   unfold rdOf
   rw [Int.toNat_natCast, List.getD_eq_getElem?_getD, hx]; rfl
  rw [this] at hcell
  have e : (⟨g, 0, none⟩ : Addr).add j = ⟨g, 0 + j, none⟩ := by
   unfold Addr.add
   split <;> simp_all
  rw [← e]
  exact hcell
theorem join_flat (l : List ByteArray) : Lib.join (l.map (·.data.toList)) (⟨#[]⟩ : ByteArray).data.toList = l.flatMap (·.data.toList) := by
 show Lib.join (l.map (·.data.toList)) [] = _
 cases l with
 | nil => rfl
 | cons x r =>
  rw [List.map_cons, Lib.join_cons, List.flatMap_cons]
  unfold Lib.joinTail
  congr 1
  rw [List.map_map]
  exact (List.flatMap_def ..).symm
theorem sjoin_calls {w : World} {base : Nat} {ok : Nat → Prop} {v : Value} {l : List ByteArray} (h : Kd.string.R 9 w base ok v l) (hs : sumS l ≤ 140737488355328) (hn : l.length ≤ 140737488355328) :
  Calls Tryz.prog 37 #[v, .string ⟨#[]⟩] w fun e w' => e = .returned (.string (joinS l)) ∧ Below w.heap.size w w' := by
 rcases R_str h with ⟨rfl, rfl⟩ | ⟨g, c, rfl, hc, hg, hcell⟩
 ·refine (lay_strings_Join_none none 0 ⟨#[]⟩ w).mono ?_
  rintro e w' ⟨rfl, rfl⟩
  exact ⟨rfl, Below.refl _ _⟩
 ·have hl : (Lib.join (l.map (·.data.toList)) (⟨#[]⟩ : ByteArray).data.toList).length = sumS l := by
   rw [join_flat, ← joinS_list, tl_len, joinS_size]
  refine (lay_strings_Join g 0 c l ⟨#[]⟩ w hcell hg hn hc (by rw [hl]; exact hs)).mono ?_
  rintro e w' ⟨rfl, hb⟩
  exact ⟨by rw [join_flat]; rfl, hb⟩
/-! what an id's file has -/
abbrev jointS (file : ByteArray) : ByteArray := joinS (framesS file).1
noncomputable def rightS (id file : ByteArray) : Bool := decide ((framesS file).2 = file.size) && (!sameN (jointS file) ⟨#[]⟩ && (decide ((jointS file).size ≤ 4096) && (sameN (idS (jointS file)) id && sameN (laidS (jointS file)) file)))
theorem eq_sameN (a b : ByteArray) : (a.toList == b.toList) = sameN a b := by
 rw [ByteArray.toList_eq, ByteArray.toList_eq]; rfl
theorem sameN_nil (s : ByteArray) : sameN s ⟨#[]⟩ = s.toList.isEmpty := by
 rw [ByteArray.toList_eq]
 unfold sameN
 cases s.data.toList <;> rfl
theorem right_laid (s : ByteArray) (h0 : 0 < s.size) (h1 : s.size ≤ 4096) : rightS (idS s) (laidS s) = true ∧ jointS (laidS s) = s := by
 have hj : jointS (laidS s) = s := by
  unfold jointS
  rw [frames_laid]
  exact join_pieces 512 (by decide) s
 refine ⟨?_, hj⟩
 unfold rightS
 rw [hj, frames_laid]
 have n0 : sameN s ⟨#[]⟩ = false := by
  rw [← Bool.not_eq_true, sameN_iff]
  rintro rfl
  exact absurd h0 (by decide)
 rw [n0, sameN_iff.2 rfl, sameN_iff.2 rfl]
 simp [h1]
theorem read_calls' (id file : ByteArray) (hf : file.size ≤ 1000000000) (w : World) (hG : InG w) :
  Calls Tryz.prog 16 #[.string id, .string file] w fun e w' => e = .returned (.tuple #[.string (jointS file), .bool (rightS id file)]) ∧ Below w.heap.size w w' := by
 have HG := Aside0.mk hG
 have HF := Aside0.mk hf
 have HZ := Aside0.mk (frames_sum file)
 have HX := Aside0.mk (oct_frames file (by omega) (11 * file.size + 201) (by omega))
 have HR : Aside0 (rightS id file = (((((framesS file).2 : Nat) : Int) == (file.size : Int)) && (!(jointS file).toList.isEmpty && (decide (((jointS file).size : Int) ≤ 4096) && (((idS (jointS file)).toList == id.toList) && ((laidS (jointS file)).toList == file.toList)))))) := ⟨by
  unfold rightS
  rw [eq_sameN, eq_sameN, ← sameN_nil]
  congr 1
  ·rw [← decide_eq_decide.2 (show ((((framesS file).2 : Nat) : Int) = (file.size : Int)) ↔ (framesS file).2 = file.size by omega)]
   rfl
  ·congr 2
   exact decide_eq_decide.2 (by omega)⟩
 clear hG hf
 unfold jointS at HR ⊢
 generalize framesS file = fr at HZ HX HR ⊢
 obtain ⟨l, n⟩ := fr
 simp only at HZ HX HR
 change Calls Tryz.prog 16 #[.string id, .string file] w fun e w' => e = .returned (.tuple #[.string (joinS l), .bool (rightS id file)]) ∧ Below w.heap.size w w'
 generalize hj : joinS l = J at HR ⊢
 have HJE := Aside0.mk hj
 clear hj
 go_enter Tryz.func16, Tryz.ntmps16
 go_wp2_with (fail)
 refine (frame_Frames.calls _ file l (n : Int) w HX.out).mono ?_
 rintro e w1 ⟨v, rfl, hR, hb⟩
 have R1 := Aside0.mk hR
 have B1 := Aside0.mk hb
 clear hR hb HX
 go_wp2_with (fail)
 refine (sjoin_calls R1.out (by have := HZ.out; have := HF.out; omega) (by have := HZ.out; have := HF.out; omega)).mono ?_
 rintro e w2 ⟨rfl, hb⟩
 have B2 := Aside0.mk (below_step B1.out hb)
 rw [HJE.out]
 have HJ : Aside0 (J.size ≤ file.size) := ⟨by rw [← HJE.out, joinS_size]; exact HZ.out.1⟩
 clear hb R1 B1
 cases q1 : ((n : Int) == (file.size : Int)) with
 | false =>
  rw [q1] at HR
  go_wp2
  go_ret2
  exact ⟨by rw [HR.out]; rfl, B2.out⟩
 | true =>
  rw [q1] at HR
  cases q2 : J.toList.isEmpty with
  | true =>
   rw [q2] at HR
   go_wp2
   go_ret2
   exact ⟨by rw [HR.out]; rfl, B2.out⟩
  | false =>
   rw [q2] at HR
   by_cases h3 : (J.size : Int) ≤ 4096
   ·have q3 : decide ((J.size : Int) ≤ 4096) = true := decide_eq_true h3
    rw [q3] at HR
    have H3 := Aside0.mk h3
    have h3p : ((J.size : Int) ≤ 4096) = True := eq_true h3
    clear h3
    go_wp2_with (fail)
    refine (ID_calls J (by have := H3.out; omega) w2 (HG.out.below B2.out)).mono ?_
    rintro e w3 ⟨rfl, hb⟩
    have B3 := Aside0.mk (below_step B2.out hb)
    clear hb
    cases q4 : ((idS J).toList == id.toList) with
    | false =>
     rw [q4] at HR
     go_wp2
     go_ret2
     exact ⟨by rw [HR.out]; rfl, B3.out⟩
    | true =>
     rw [q4] at HR
     go_wp2_with (fail)
     refine (extent_laid.calls 4000001 J (laidS J) w3 (oct_laid J (by have := H3.out; omega) _ (by omega))).mono ?_
     rintro e w4 ⟨rfl, hb⟩
     have B4 := Aside0.mk (below_step B3.out hb)
     clear hb
     cases q5 : ((laidS J).toList == file.toList) with
     | false =>
      rw [q5] at HR
      go_wp2
      go_ret2
      exact ⟨by rw [HR.out]; rfl, B4.out⟩
     | true =>
      rw [q5] at HR
      go_wp2
      go_ret2
      exact ⟨by rw [HR.out]; rfl, B4.out⟩
   ·have q3 : decide ((J.size : Int) ≤ 4096) = false := decide_eq_false h3
    rw [q3] at HR
    have h3p : ((J.size : Int) ≤ 4096) = False := eq_false h3
    clear h3
    go_wp2
    go_ret2
    exact ⟨by rw [HR.out]; rfl, B2.out⟩
end Go.Proofs.YtpgbkeaaklglkaaGreatDoor.Q
namespace Go.Proofs.YtpgbkeaaklglkaaGreatDoor.Q
open Go.Maps Go.WideShapes Go.WideMaps Go.RowKit Go.Proofs.YtpgbkeaaklglkaaGreatDoorW.PrintWords Go.Proofs.YtpgbkeaaklglkaaGreatDoorW.PrintLast Go.Proofs.YtpgbkeaaklglkaaGreatDoorW.PrintMore
set_option linter.unusedVariables false
set_option linter.unusedSimpArgs false
set_option maxHeartbeats 10000000
set_option maxRecDepth 100000
/-! a store in memory; its ids -/
noncomputable def allX (l : Fs) : List ByteArray := ((l.map (·.1)).filter isX).map idX
theorem allX_len (l : Fs) : (allX l).length ≤ l.length := by
 unfold allX
 rw [List.length_map]
 exact Nat.le_trans (List.length_filter_le _ _) (Nat.le_of_eq (List.length_map ..))
theorem allX_succ {l : Fs} {j : Nat} {p : ByteArray × ByteArray} (h : l[j]? = some p) : allX (l.take (j + 1)) = allX (l.take j) ++ (if isX p.1 = true then [idX p.1] else []) := by
 obtain ⟨hl, hx⟩ := List.getElem?_eq_some_iff.1 h
 unfold allX
 rw [List.take_succ_eq_append_getElem hl, hx, List.map_append, List.filter_append, List.map_append]
 congr 1
 simp only [List.map_cons, List.map_nil, List.filter_cons, List.filter_nil]
 split <;> rfl
noncomputable def preB (n : ByteArray) : Bool := decide (2 ≤ n.size) && sameN (n.extract 0 2) nE
theorem isX_pre (n : ByteArray) : isX n = (preB n && mayS (idX n)) := rfl
theorem cut_pre (n : ByteArray) : strings_CutPrefix.f n nE = some (if preB n = true then (idX n, true) else (n, false)) := by
 unfold strings_CutPrefix.f stringslite_CutPrefix.f stringslite_HasPrefix.f preB
 rw [nE_size]
 by_cases h : 2 ≤ n.size
 ·rw [if_pos (by omega), if_pos (by omega), if_pos (by omega), decide_eq_true h, Bool.true_and]
  simp only [Option.bind_some]
  rw [show ((2 : Nat) : Int).toNat = 2 from rfl, eq_sameN]
  by_cases h2 : sameN (n.extract 0 2) nE = true
  ·rw [if_pos h2, if_pos h2, if_pos (by omega), if_pos (by omega)]; rfl
  ·rw [if_neg h2, if_neg h2]; rfl
 ·rw [if_neg (by omega), decide_eq_false h]
  rfl
abbrev IsSt (w : World) (x d : Nat) : Prop := w.heap[x]? = some (.cells #[.pointer (some ⟨d, 0, none⟩)] 52 (0, 0))
theorem All_calls {w : World} {x d : Nat} {ok : Nat → Prop} {st : DK} (hx : IsSt w x d) (h : IsD w d ok st) (hd : st.down = false) (hr : Rises st.now) (hn : Named st.now) (hl : st.now.length ≤ 1000000) :
  Calls Tryz.prog 15 #[.pointer (some ⟨x, 0, none⟩)] w fun e w' => ∃ v, e = .returned v ∧ Kd.string.R 9 w' w.heap.size (fun k => w.heap.size ≤ k) v (allX st.now) ∧ Below w.heap.size w w' := by
 have hu := Tryz.underlying52
 have hc0 : w.cell? ⟨x, 0, none⟩ = some (.pointer (some ⟨d, 0, none⟩)) := (blk_cell hx 0).trans rfl
 have H := Aside0.mk h
 have HD := Aside0.mk hd
 have HR := Aside0.mk hr
 have HNM := Aside0.mk hn
 have HL := Aside0.mk hl
 clear h hd hr hn hl hx
 go_enter Tryz.func15, Tryz.ntmps15
 go_wp2_with (fail)
 refine (names_calls H.out HD.out HR.out (by have := HL.out; omega)).mono ?_
 rintro e w1 ⟨v, rfl, hR, hb⟩
 obtain ⟨A, c, rfl, hlc, hC⟩ := Kd.R_reads hR
 have hln : (namesF st.now).length = st.now.length := List.length_map ..
 rw [hln] at hC ⊢
 have B1 := Aside0.mk hb
 obtain ⟨n, hn⟩ : ∃ n, n = st.now.length := ⟨_, rfl⟩
 have HNN := Aside0.mk hn
 rw [← hn] at hC ⊢
 have HC := Aside0.mk hC
 clear hR hb hC hln hlc hn hc0 hu
 go_wp2_with (fail)
 go_loopg [3, 16] (n + 1) (fun kq v3 v16 w' => ∃ (j : Nat), v16 = .int .i64 (j : Int) ∧ Aside0 (j + kq = n + 1 ∧ j ≤ n) ∧ Aside0 (Kd.string.R 9 w' w1.heap.size (fun k => w1.heap.size ≤ k) v3 (allX (st.now.take j))) ∧ Aside0 (Below w1.heap.size w1 w'))
 case atStart => exact ⟨0, rfl, ⟨by omega, by omega⟩, ⟨Kd.R_nil _ _ _ _ _⟩, ⟨Below.refl _ _⟩⟩
 case round =>
  obtain ⟨j, rfl, HJ, HR3, HB⟩ := hrel
  cases gk with
  | zero => have := HJ.out; omega
  | succ k1 =>
   by_cases hj : j < n
   ·have hlt : ((j : Int) < (n : Int)) = True := eq_true (by omega)
    have hj2 : j < st.now.length := by have := HNN.out; omega
    obtain ⟨p, hp⟩ : ∃ p, st.now[j]? = some p := ⟨_, List.getElem?_eq_getElem hj2⟩
    have hmem : p ∈ st.now := List.mem_of_getElem? hp
    have hrd : rdOf ByteArray.empty (namesF st.now) (j : Int) = p.1 := by
     unfold rdOf namesF
     rw [Int.toNat_natCast, List.getD_eq_getElem?_getD, List.getElem?_map, hp]
     rfl
    have HSC := Aside0.mk (allX_succ hp)
    have HSZ : Aside0 (p.1.size ≤ 80) := ⟨(nameS_iff.1 (HNM.out p hmem)).2.2⟩
    have HCP := Aside0.mk (cut_pre p.1)
    obtain ⟨ad, e, h0⟩ := (Kd.reads_of_C (enc := Value.string) (d := ByteArray.empty) (Kd.C_below HC.out HB.out)).at_ (j : Int) (by omega) (by omega)
    rw [Int.toNat_natCast, hrd] at h0
    subst e
    clear hp hmem hj2 hrd
    go_wp2_with (fail)
    cases hq : preB p.1 with
    | false =>
     refine (strings_CutPrefix.calls p.1 nE p.1 false _ (by rw [HCP.out, if_neg (by rw [hq]; simp)])).mono ?_
     rintro e w2 ⟨rfl, ⟨nd, rfl⟩⟩
     have HS2 : Aside0 (allX (st.now.take (j + 1)) = allX (st.now.take j)) := ⟨by rw [HSC.out, if_neg (by rw [isX_pre, hq]; simp), List.append_nil]⟩
     clear hq h0
     go_wp2_with (fail)
     go_roundg k1
     case measure => have := HJ.out; omega
     case rel => exact ⟨j + 1, by rw [IntWalk.wrap64_in _ (by have := HL.out; have := HNN.out; omega)]; rfl, ⟨by have := HJ.out; omega, by omega⟩, ⟨by rw [HS2.out]; exact Kd.R_drewN HR3.out _⟩, ⟨pw_below_drewN HB.out _⟩⟩
    | true =>
     refine (strings_CutPrefix.calls p.1 nE (idX p.1) true _ (by rw [HCP.out, if_pos hq])).mono ?_
     rintro e w2 ⟨rfl, ⟨nd, rfl⟩⟩
     have HID : Aside0 ((idX p.1).size ≤ 80) := ⟨by have := HSZ.out; rw [ByteArray.size_extract]; omega⟩
     have R2 := Aside0.mk (Kd.R_drewN HR3.out nd)
     have B2 := Aside0.mk (pw_below_drewN HB.out nd)
     have HQ := Aside0.mk hq
     have h0' : (wr.drewN nd).cell? (ad.add j) = some (.string p.1) := (drewN_cell _ _ _).trans h0
     clear hq h0 HR3 HB
     have HCE : Aside0 (True) := ⟨trivial⟩
     generalize wr.drewN nd = w3 at R2 B2 h0' ⊢
     generalize hid : idX p.1 = id at HID HSC ⊢
     have HIDE := Aside0.mk hid
     clear hid
     go_wp2_with (fail)
     refine (may_calls id (by have := HID.out; omega) w3).mono ?_
     rintro e w4 ⟨rfl, hb⟩
     have B4 := Aside0.mk (below_step B2.out hb)
     have R4 := Aside0.mk (Kd.R_below R2.out hb)
     clear hb R2 h0'
     obtain ⟨ad', e, h1⟩ := (Kd.reads_of_C (enc := Value.string) (d := ByteArray.empty) (Kd.C_below HC.out B4.out)).at_ (j : Int) (by omega) (by omega)
     injection e with e
     subst e
     cases hm : mayS id with
     | false =>
      have HS2 : Aside0 (allX (st.now.take (j + 1)) = allX (st.now.take j)) := ⟨by rw [HSC.out, if_neg (by rw [isX_pre, HIDE.out, hm]; simp), List.append_nil]⟩
      clear hm h1
      go_wp2_with (fail)
      go_roundg k1
      case measure => have := HJ.out; omega
      case rel => exact ⟨j + 1, by rw [IntWalk.wrap64_in _ (by have := HL.out; have := HNN.out; omega)]; rfl, ⟨by have := HJ.out; omega, by omega⟩, ⟨by rw [HS2.out]; exact R4.out⟩, B4⟩
     | true =>
      have HS2 : Aside0 (allX (st.now.take (j + 1)) = allX (st.now.take j) ++ [id]) := ⟨by rw [HSC.out, if_pos (by rw [isX_pre, HQ.out, HIDE.out, hm]; rfl)]⟩
      have HLN : Aside0 ((allX (st.now.take j)).length ≤ 1000000) := ⟨by have h1 := allX_len (st.now.take j); rw [List.length_take] at h1; have := HL.out; omega⟩
      clear hm h1
      go_wp2_with (first | ((with_reducible refine gate_builtin (b := .append) (xs := #[.tmp 30, .tmp 32]) rfl ?_); at_builtin; refine Kd.R_append Kd.string (w0 := w1) w1.heap.size rfl (.tmp 30) (.tmp 32) 22 9 (.string ⟨#[]⟩) 16 rfl Tryz.underlying22 info9 rfl (by decide) (by omega) u3 (allX (st.now.take j)) id [.string id] (fun k => w1.heap.size ≤ k) (fun _ => False) rfl rfl rfl (fun _ hk => hk.elim) (fun k hk => Nat.le_trans B4.out.size hk) R4.out B4.out B4.out.size ?aL ?_; (case aL => have := HLN.out; omega); intro v5 w5 ho hb hg hat; have HO5 := Aside0.mk ho; have HB5 := Aside0.mk hb; clear ho hb hg hat))
      go_roundg k1
      case measure => have := HJ.out; omega
      case rel => exact ⟨j + 1, by rw [IntWalk.wrap64_in _ (by have := HL.out; have := HNN.out; omega)]; rfl, ⟨by have := HJ.out; omega, by omega⟩, ⟨by rw [HS2.out]; exact HO5.out⟩, HB5⟩
   ·obtain rfl : j = n := by have := HJ.out; omega
    have hlt : ((j : Int) < (j : Int)) = False := eq_false (by omega)
    go_wp2
    go_ret
    refine ⟨_, rfl, ?_, B1.out.trans (HB.out.mono B1.out.size)⟩
    have h := HR3.out
    rw [HNN.out, List.take_length] at h
    exact Kd.R_mono (Kd.R_lower h B1.out.size) (fun k hk => Nat.le_trans B1.out.size hk)
/-! a store on an idle disk: what its calls make of the files -/
abbrev eId (id : ByteArray) : ByteArray := nE ++ id
noncomputable def getX (l : Fs) (id : ByteArray) : ByteArray × Int :=
 if mayS id = true then (if hasF l (eId id) = true then (if rightS id (getF l (eId id)) = true then (jointS (getF l (eId id)), 0) else (⟨#[]⟩, 10)) else (⟨#[]⟩, 4)) else (⟨#[]⟩, 1)
noncomputable def hasX (l : Fs) (id : ByteArray) : Bool := decide ((getX l id).2 = 0)
noncomputable def putX (l : Fs) (s : ByteArray) : Fs := if s.size = 0 ∨ 4096 < s.size ∨ hasX l (idS s) = true then l else putF l (eId (idS s)) (laidS s)
noncomputable def putI (s : ByteArray) : ByteArray := if s.size = 0 ∨ 4096 < s.size then ⟨#[]⟩ else idS s
def putE (s : ByteArray) : Int := if s.size = 0 then 1 else if 4096 < s.size then 2 else 0
def Sml (l : Fs) : Prop := ∀ p ∈ l, p.2.size ≤ 1000000000
structure Env (w : World) (x d : Nat) (ok : Nat → Prop) : Prop where
 tab : InG w
 no0 : ¬ ok 0
 new : ∀ k, w.heap.size ≤ k → ok k
 blk : IsSt w x d
 nox : ¬ ok x
theorem Env.lt {w : World} {x d : Nat} {ok : Nat → Prop} (h : Env w x d ok) : x < w.heap.size := lt_of_some h.blk
theorem InG.kp {w w' : World} {ok : Nat → Prop} (h : InG w) (h0 : ¬ ok 0) (hk : Kp ok w w') : InG w' := fun n hn => (World.cell?_of_block (hk.block 0 h.pos h0)).trans (h n hn)
theorem Env.keep {w w' : World} {x d : Nat} {ok : Nat → Prop} (h : Env w x d ok) (hk : Kp ok w w') : Env w' x d ok :=
 ⟨h.tab.kp h.no0 hk, h.no0, fun k hs => h.new k (Nat.le_trans hk.size hs), (hk.block x h.lt h.nox).trans h.blk, h.nox⟩
theorem Env.below {w w' : World} {x d : Nat} {ok : Nat → Prop} (h : Env w x d ok) (hb : Below w.heap.size w w') : Env w' x d ok := h.keep (Kp.of_below hb)
/-- a store x on an idle disk d with the files l, behind at most i changes -/
structure Sto (w : World) (x d : Nat) (ok : Nat → Prop) (i : Nat) (l : Fs) (n : Int) : Prop where
 env : Env w x d ok
 disk : IsD w d ok (idl l n)
 good : Good i (idl l n)
 sml : Sml l
theorem Sto.below {w w' : World} {x d : Nat} {ok : Nat → Prop} {i : Nat} {l : Fs} {n : Int} (h : Sto w x d ok i l n) (hb : Below w.heap.size w w') : Sto w' x d ok i l n := ⟨h.env.below hb, h.disk.below hb, h.good, h.sml⟩
theorem getF_small {l : Fs} (h : Sml l) (n : ByteArray) : (getF l n).size ≤ 1000000000 := by
 unfold getF
 cases hf : l.find? (fun p => sameN p.1 n) with
 | none => decide
 | some p => exact h p (List.mem_of_find?_eq_some hf)
theorem read_idl (l : Fs) (n : Int) {nm : ByteArray} (h : nameS nm = true) : readE (idl l n) nm = (if hasF l nm = true then 0 else 4) ∧ readS (idl l n) nm = (if hasF l nm = true then getF l nm else ⟨#[]⟩) := by
 have h0 : askE (idl l n).down [nm] = 0 := by
  unfold askE idl
  rw [if_neg (by simp), if_pos (by rw [List.all_cons, h]; rfl)]
 have h1 : readE (idl l n) nm = (if hasF l nm = true then 0 else 4) := by unfold readE; rw [if_pos h0]; rfl
 refine ⟨h1, ?_⟩
 unfold readS
 rw [h1]
 by_cases hh : hasF l nm = true
 ·rw [if_pos hh, if_pos rfl, if_pos hh]; rfl
 ·rw [if_neg hh, if_neg (by decide), if_neg hh]
theorem Get_calls {w : World} {x d : Nat} {ok : Nat → Prop} {i : Nat} {l : Fs} {n : Int} (h : Sto w x d ok i l n) (id : ByteArray) (hs : id.size ≤ 140737488351232) :
  Calls Tryz.prog 29 #[.pointer (some ⟨x, 0, none⟩), .string id] w fun e w' => e = .returned (.tuple #[.string (getX l id).1, .int .i64 (getX l id).2]) ∧ Below w.heap.size w w' := by
 have hu := Tryz.underlying52
 have H := Aside0.mk h
 have HS := Aside0.mk hs
 clear h hs
 go_enter Tryz.func29, Tryz.ntmps29
 go_wp2_with (fail)
 refine (may_calls id HS.out w).mono ?_
 rintro e w1 ⟨rfl, hb⟩
 have B1 := Aside0.mk hb
 have H1 := Aside0.mk (H.out.below hb)
 clear hb
 cases hm : mayS id with
 | false =>
  have HE : Aside0 (getX l id = (⟨#[]⟩, 1)) := ⟨by unfold getX; rw [if_neg (by rw [hm]; simp)]⟩
  clear hm
  go_wp2
  go_ret2
  exact ⟨by rw [HE.out]; rfl, B1.out⟩
 | true =>
  have HM := Aside0.mk hm
  have hc0 : w1.cell? ⟨x, 0, none⟩ = some (.pointer (some ⟨d, 0, none⟩)) := (blk_cell H1.out.env.blk 0).trans rfl
  have hsz : ((⟨#[101, 46]⟩ : ByteArray).size + id.size > 9223372036854775807) = False := eq_false (by have := HS.out; have e : (⟨#[101, 46]⟩ : ByteArray).size = 2 := rfl; omega)
  have hsz2 : (2 + id.size > 9223372036854775807) = False := eq_false (by have := HS.out; omega)
  have hsz3 : (9223372036854775807 < 2 + id.size) = False := eq_false (by have := HS.out; omega)
  clear hm
  go_wp2_with (fail)
  refine (read_calls H1.out.disk (nE ++ id) (by rw [eId_size]; have := HS.out; omega)).mono ?_
  rintro e w2 ⟨rfl, hb⟩
  have B2 := Aside0.mk (below_step B1.out hb)
  have H2 := Aside0.mk (H1.out.below hb)
  clear hb hc0
  rw [(read_idl l n (may_name HM.out)).1, (read_idl l n (may_name HM.out)).2]
  cases hh : hasF l (nE ++ id) with
  | false =>
   have HE : Aside0 (getX l id = (⟨#[]⟩, 4)) := ⟨by unfold getX; rw [if_pos HM.out, if_neg (by show ¬ hasF l (nE ++ id) = true; rw [hh]; simp)]⟩
   clear hh hsz hsz2 hsz3
   rw [if_neg (by simp), if_neg (by simp)]
   go_wp2
   go_ret2
   exact ⟨by rw [HE.out]; rfl, B2.out⟩
  | true =>
   have HH := Aside0.mk hh
   clear hh hsz hsz2 hsz3
   rw [if_pos rfl, if_pos rfl]
   go_wp2_with (fail)
   refine (read_calls' id (getF l (nE ++ id)) (getF_small H2.out.sml _) w2 H2.out.env.tab).mono ?_
   rintro e w3 ⟨rfl, hb⟩
   have B3 := Aside0.mk (below_step B2.out hb)
   clear hb
   cases hr : rightS id (getF l (nE ++ id)) with
   | false =>
    have HE : Aside0 (getX l id = (⟨#[]⟩, 10)) := ⟨by unfold getX; rw [if_pos HM.out, if_pos HH.out, if_neg (by rw [hr]; simp)]⟩
    clear hr
    go_wp2
    go_ret2
    exact ⟨by rw [HE.out]; rfl, B3.out⟩
   | true =>
    have HE : Aside0 (getX l id = (jointS (getF l (nE ++ id)), 0)) := ⟨by unfold getX; rw [if_pos HM.out, if_pos HH.out, if_pos hr]⟩
    clear hr
    go_wp2
    go_ret2
    exact ⟨by rw [HE.out]; rfl, B3.out⟩
theorem Has_calls {w : World} {x d : Nat} {ok : Nat → Prop} {i : Nat} {l : Fs} {n : Int} (h : Sto w x d ok i l n) (id : ByteArray) (hs : id.size ≤ 140737488351232) :
  Calls Tryz.prog 43 #[.pointer (some ⟨x, 0, none⟩), .string id] w fun e w' => e = .returned (.bool (hasX l id)) ∧ Below w.heap.size w w' := by
 have H := Aside0.mk h
 have HS := Aside0.mk hs
 clear h hs
 go_enter Tryz.func43, Tryz.ntmps43
 go_wp2_with (fail)
 refine (Get_calls H.out id HS.out).mono ?_
 rintro e w1 ⟨rfl, hb⟩
 have B1 := Aside0.mk hb
 clear hb
 have HE : Aside0 (hasX l id = ((getX l id).2 == 0)) := ⟨rfl⟩
 generalize (getX l id).2 = q at HE ⊢
 go_wp2
 go_ret
 exact ⟨by rw [HE.out]; rfl, B1.out⟩
/-! files that are taken away, one by one -/
def delsF (l : Fs) (gs : List ByteArray) : Fs := gs.foldl delF l
theorem mem_dels : ∀ {gs : List ByteArray} {l : Fs} {p : ByteArray × ByteArray}, p ∈ delsF l gs ↔ p ∈ l ∧ p.1 ∉ gs
 | [], l, p => by simp [delsF]
 | g :: gs, l, p => by
  show p ∈ delsF (delF l g) gs ↔ _
  rw [mem_dels, mem_delF, List.mem_cons, not_or]
  constructor
  ·rintro ⟨⟨h1, h2⟩, h3⟩; exact ⟨h1, h2, h3⟩
  ·rintro ⟨h1, h2, h3⟩; exact ⟨⟨h1, h2⟩, h3⟩
theorem dels_snoc (l : Fs) (gs : List ByteArray) (g : ByteArray) : delsF l (gs ++ [g]) = delF (delsF l gs) g := by unfold delsF; rw [List.foldl_append]; rfl
theorem dels_has {gs : List ByteArray} {l : Fs} {g : ByteArray} (h : hasF l g = true) (hn : g ∉ gs) : hasF (delsF l gs) g = true := by
 obtain ⟨p, hp, e⟩ := hasF_iff.1 h
 exact hasF_iff.2 ⟨p, mem_dels.2 ⟨hp, by rw [e]; exact hn⟩, e⟩
theorem Sml.dels {l : Fs} (h : Sml l) (gs : List ByteArray) : Sml (delsF l gs) := fun p hp => h p (mem_dels.1 hp).1
def mid (l now : Fs) (ws : List Chg) (n : Int) : DK := ⟨l, now, ws, n, false, [], -1⟩
theorem mid_remove {l now : Fs} {ws : List Chg} {n : Int} {a : ByteArray} (ha : nameS a = true) (hh : hasF now a = true) : removeK (mid l now ws n) a = (mid l (delF now a) (ws ++ [⟨3, a, ⟨#[]⟩, ⟨#[]⟩, 0⟩]) (n + 1), 0) := by
 unfold removeK
 rw [if_pos (show askE (mid l now ws n).down [a] = 0 by unfold askE mid; rw [if_neg (by simp), if_pos (by rw [List.all_cons, ha]; rfl)]), if_pos (show hasF (mid l now ws n).now a = true from hh)]
 rw [changeK_none (show hitI (mid l now ws n) = none from rfl)]
 rfl
theorem row_keep {α : Type} {D : Kd α} {e : Nat} {w : World} {base : Nat} {okr ok : Nat → Prop} {v : Value} {xs : List α} (hR : D.R e w base okr v xs) (hno : ∀ k, okr k → k < w.heap.size → ¬ ok k) : ∀ w', Kp ok w w' → D.R e w' base okr v xs :=
 fun w' hk => Kd.R_step hR (fun k h1 h2 => hk.block k h2 (hno k h1 h2))
theorem remove_st {w : World} {x d : Nat} {ok : Nat → Prop} {i : Nat} {l : Fs} {n : Int} (h : Sto w x d ok i l n) (A : Option Addr) (c : Nat) (gs : List ByteArray)
  (hC : ∀ w', Kp ok w w' → Kd.C Kd.string w' A gs.length gs) (hi : i + gs.length ≤ 900) (hg : ∀ g ∈ gs, nameS g = true) (hnd : gs.Nodup) (hin : ∀ g ∈ gs, hasF l g = true) :
  Calls Tryz.prog 17 #[.pointer (some ⟨x, 0, none⟩), .slice A gs.length c] w fun e w' => e = .returned (.int .i64 0) ∧ Sto w' x d ok (i + gs.length) (delsF l gs) (n + gs.length) ∧ Kp ok w w' := by
 have hu := Tryz.underlying52
 have H := Aside0.mk h
 have HC := Aside0.mk hC
 have HI := Aside0.mk hi
 have HGN := Aside0.mk hg
 have HND := Aside0.mk hnd
 have HIN := Aside0.mk hin
 clear h hC hi hg hnd hin
 obtain ⟨m, hm⟩ : ∃ m, m = gs.length := ⟨_, rfl⟩
 have HM := Aside0.mk hm
 rw [← hm] at HC HI ⊢
 clear hm
 go_enter Tryz.func17, Tryz.ntmps17
 go_wp2_with (fail)
 go_loopg [10] (m + 1) (fun kq v10 w' => ∃ (j : Nat), v10 = .int .i64 (j : Int) ∧ Aside0 (j + kq = m + 1 ∧ j ≤ m) ∧ Aside0 (∃ ws, IsD w' d ok (mid l (delsF l (gs.take j)) ws (n + j)) ∧ Good (i + j) (mid l (delsF l (gs.take j)) ws (n + j)) ∧ (j = 0 → ws = [])) ∧ Aside0 (Kp ok w w'))
 case atStart => exact ⟨0, rfl, ⟨by omega, by omega⟩, ⟨[], by rw [show n + ((0 : Nat) : Int) = n by omega]; exact H.out.disk, by rw [show n + ((0 : Nat) : Int) = n by omega]; exact H.out.good, fun _ => rfl⟩, ⟨Kp.refl _ _⟩⟩
 case round =>
  obtain ⟨j, rfl, HJ, HD, HK⟩ := hrel
  have E := Aside0.mk (H.out.env.keep HK.out)
  have hcx : wr.cell? ⟨x, 0, none⟩ = some (.pointer (some ⟨d, 0, none⟩)) := (blk_cell E.out.blk 0).trans rfl
  cases gk with
  | zero => have := HJ.out; omega
  | succ k1 =>
   by_cases hj : j < m
   ·have hlt : ((j : Int) < (m : Int)) = True := eq_true (by omega)
    have hj2 : j < gs.length := by have := HM.out; omega
    obtain ⟨g, hgx⟩ : ∃ g, gs[j]? = some g := ⟨_, List.getElem?_eq_getElem hj2⟩
    have hmem : g ∈ gs := List.mem_of_getElem? hgx
    have hrd : rdOf ByteArray.empty gs (j : Int) = g := by
     unfold rdOf
     rw [Int.toNat_natCast, List.getD_eq_getElem?_getD, hgx]
     rfl
    obtain ⟨ad, e, h0⟩ := (Kd.reads_of_C (enc := Value.string) (d := ByteArray.empty) (HC.out wr HK.out)).at_ (j : Int) (by omega) (by omega)
    rw [Int.toNat_natCast, hrd] at h0
    have HTK : Aside0 (gs.take (j + 1) = gs.take j ++ [g]) := ⟨by
     obtain ⟨hl, hx⟩ := List.getElem?_eq_some_iff.1 hgx
     rw [List.take_succ_eq_append_getElem hl, hx]⟩
    have HNI : Aside0 (g ∉ gs.take j) := ⟨by
     intro hh
     have hnd := HND.out
     rw [← List.take_append_drop (j + 1) gs, HTK.out] at hnd
     have h1 := (List.nodup_append.1 (List.nodup_append.1 hnd).1).2.2 g hh g (List.mem_singleton.2 rfl)
     exact h1 rfl⟩
    have HGX := Aside0.mk (HGN.out g hmem)
    have HHX := Aside0.mk (dels_has (HIN.out g hmem) HNI.out)
    obtain ⟨ws, hD, hGd, _⟩ := HD.out
    have D1 := Aside0.mk hD
    have G1 := Aside0.mk hGd
    subst e
    clear hgx hmem hj2 hrd hD hGd HD
    go_wp2_with (fail)
    refine (remove_calls D1.out (fun k hk => E.out.new k hk) g (Nat.le_trans (nameS_iff.1 HGX.out).2.2 (by decide)) (fun _ _ _ => G1.out.can (by have := HI.out; omega) (G1.out.okc (by have := HI.out; omega) (by decide) (Nat.le_trans (nameS_iff.1 HGX.out).2.2 (by decide)) (by decide) (by decide) (fun e => absurd e (by decide))))).mono ?_
    rintro e w2 ⟨rfl, hI, hK⟩
    rw [mid_remove HGX.out HHX.out] at hI ⊢
    have G2 : Aside0 (Good (i + (j + 1)) (mid l (delF (delsF l (gs.take j)) g) (ws ++ [⟨3, g, ⟨#[]⟩, ⟨#[]⟩, 0⟩]) (n + j + 1))) := ⟨by
     have := G1.out.call (k := 3) (a := g) (b := ⟨#[]⟩) (s := ⟨#[]⟩) (n := 0) (by have := HI.out; omega) (by decide) (Nat.le_trans (nameS_iff.1 HGX.out).2.2 (by decide)) (by decide) (by decide)
     unfold callK at this
     rw [if_neg (by decide), if_neg (by decide), if_neg (by decide), if_pos rfl, mid_remove HGX.out HHX.out] at this
     exact this⟩
    have D2 := Aside0.mk hI
    have K2 := Aside0.mk (HK.out.trans hK)
    clear hI hK h0 D1 G1
    go_wp2_with (fail)
    go_roundg k1
    case measure => have := HJ.out; omega
    case rel =>
     refine ⟨j + 1, by rw [IntWalk.wrap64_in _ (by have := HI.out; omega)]; rfl, ⟨by have := HJ.out; omega, by omega⟩, ⟨ws ++ [⟨3, g, ⟨#[]⟩, ⟨#[]⟩, 0⟩], ?_, ?_, fun e => by omega⟩, K2⟩
     ·rw [HTK.out, dels_snoc, show n + ((j + 1 : Nat) : Int) = n + j + 1 by omega]
      exact D2.out
     ·rw [HTK.out, dels_snoc, show n + ((j + 1 : Nat) : Int) = n + j + 1 by omega]
      exact G2.out
   ·obtain rfl : j = m := by have := HJ.out; omega
    have hlt : ((j : Int) < (j : Int)) = False := eq_false (by omega)
    obtain ⟨ws, hD, hGd, hw⟩ := HD.out
    rw [HM.out, List.take_length] at hD hGd
    have D1 := Aside0.mk hD
    have G1 := Aside0.mk hGd
    clear hD hGd HD
    by_cases h0 : 0 < j
    ·have h0' : (0 < j) = True := eq_true h0
     clear h0 hw
     go_wp2_with (fail)
     refine (sync_calls D1.out (fun k hk => E.out.new k hk)).mono ?_
     rintro e w2 ⟨rfl, hI, hK⟩
     rw [show syncE (mid l (delsF l gs) ws (n + gs.length)) = 0 from (syncK_up rfl).2]
     rw [show syncK (mid l (delsF l gs) ws (n + gs.length)) = idl (delsF l gs) (n + gs.length) from (syncK_up rfl).1] at hI
     have G2 : Aside0 (Good (i + gs.length) (idl (delsF l gs) (n + gs.length))) := ⟨by
      have := G1.out.sync.1
      rw [show syncK (mid l (delsF l gs) ws (n + gs.length)) = idl (delsF l gs) (n + gs.length) from (syncK_up rfl).1] at this
      exact this⟩
     have D2 := Aside0.mk hI
     have K2 := Aside0.mk (HK.out.trans hK)
     clear hI hK
     go_wp2
     go_ret
     exact ⟨rfl, ⟨H.out.env.keep K2.out, by rw [HM.out]; exact D2.out, by rw [HM.out]; exact G2.out, H.out.sml.dels gs⟩, K2.out⟩
    ·have h0' : (0 < j) = False := eq_false h0
     have hz : gs = [] := List.length_eq_zero_iff.1 (by have := HM.out; omega)
     have HZ := Aside0.mk hz
     have HW := Aside0.mk (hw (by omega))
     clear h0 hw hz
     go_wp2
     go_ret
     refine ⟨rfl, ⟨H.out.env.keep HK.out, ?_, ?_, H.out.sml.dels gs⟩, HK.out⟩
     ·have := D1.out; rw [HW.out] at this; rw [HM.out, HZ.out] at *; exact this
     ·have := G1.out; rw [HW.out] at this; rw [HM.out, HZ.out] at *; exact this
end Go.Proofs.YtpgbkeaaklglkaaGreatDoor.Q
namespace Go.Proofs.YtpgbkeaaklglkaaGreatDoor.Q
open Go.Maps Go.WideShapes Go.WideMaps Go.RowKit Go.Proofs.YtpgbkeaaklglkaaGreatDoorW.PrintWords Go.Proofs.YtpgbkeaaklglkaaGreatDoorW.PrintLast Go.Proofs.YtpgbkeaaklglkaaGreatDoorW.PrintMore
set_option linter.unusedVariables false
set_option linter.unusedSimpArgs false
set_option maxHeartbeats 10000000
set_option maxRecDepth 100000
/-! what is put -/
def fnsV (b2 b3 p6 d : Nat) : List Value :=
 [.func (.func 44) #[] #[.pointer (some ⟨b2, 0, none⟩), .pointer (some ⟨b3, 0, none⟩)], .func (.func 41) #[.pointer (some ⟨d, 0, none⟩)] #[],
 .func (.func 46) #[] #[.pointer (some ⟨b2, 0, none⟩), .pointer (some ⟨p6, 0, none⟩)], .func (.func 41) #[.pointer (some ⟨d, 0, none⟩)] #[]]
abbrev cWn (F : ByteArray) : Chg := ⟨1, nEN, ⟨#[]⟩, F, 0⟩
abbrev cMn (id : ByteArray) : Chg := ⟨2, nEN, eId id, ⟨#[]⟩, 0⟩
def putSt (l : Fs) (n : Int) (F id : ByteArray) : Nat → DK
 | 0 => idl l n
 | 1 => mid l (putF l nEN F) [cWn F] (n + 1)
 | 2 => idl (putF l nEN F) (n + 1)
 | 3 => mid (putF l nEN F) (putF l (eId id) F) [cMn id] (n + 1 + 1)
 | _ => idl (putF l (eId id) F) (n + 1 + 1)
def putG (i : Nat) : Nat → Nat
 | 0 => i
 | 1 => i + 1
 | 2 => i + 1
 | _ => i + 2
theorem idl_write {l : Fs} {n : Int} {nm s : ByteArray} (h : nameS nm = true) : writeK (idl l n) nm s = (mid l (putF l nm s) [⟨1, nm, ⟨#[]⟩, s, 0⟩] (n + 1), 0) := by
 unfold writeK
 rw [if_pos (show askE (idl l n).down [nm] = 0 by unfold askE idl; rw [if_neg (by simp), if_pos (by rw [List.all_cons, h]; rfl)]), if_neg (show ¬ roomE (idl l n) (getF (idl l n).now nm).size s.size = true by unfold roomE idl; simp), changeK_none (show hitI (idl l n) = none from rfl)]
 rfl
theorem idl_move {l : Fs} {n : Int} {a b : ByteArray} (ha : nameS a = true) (hb : nameS b = true) (hh : hasF l a = true) (hab : a ≠ b) : moveK (idl l n) a b = (mid l (delF (putF l b (getF l a)) a) [⟨2, a, b, ⟨#[]⟩, 0⟩] (n + 1), 0) := by
 unfold moveK
 rw [if_pos (show askE (idl l n).down [a, b] = 0 by unfold askE idl; rw [if_neg (by simp), if_pos (by rw [List.all_cons, ha, List.all_cons, hb]; rfl)]), if_pos (show hasF (idl l n).now a = true from hh), if_neg hab, changeK_none (show hitI (idl l n) = none from rfl)]
 rfl
theorem mid_sync (l now : Fs) (ws : List Chg) (n : Int) : syncK (mid l now ws n) = idl now n ∧ syncE (mid l now ws n) = 0 := syncK_up rfl
theorem Kp.cell {ok : Nat → Prop} {w w' : World} (h : Kp ok w w') {a : Addr} {v : Value} (hn : ¬ ok a.block) (hc : w.cell? a = some v) : w'.cell? a = some v := (World.cell?_of_block (h.block a.block (World.block_lt_of_cell? w _ hc) hn)).trans hc
theorem put1_calls {w : World} {b2 b3 x d : Nat} {ok : Nat → Prop} {i : Nat} {l : Fs} {n : Int} {s : ByteArray} (k2 : w.cell? ⟨b2, 0, none⟩ = some (.pointer (some ⟨x, 0, none⟩))) (k3 : w.cell? ⟨b3, 0, none⟩ = some (.string s)) (kx : w.cell? ⟨x, 0, none⟩ = some (.pointer (some ⟨d, 0, none⟩)))
  (n2 : ¬ ok b2) (n3 : ¬ ok b3) (nx : ¬ ok x) (hD : IsD w d ok (idl l n)) (hnew : ∀ k, w.heap.size ≤ k → ok k) (hg : Good i (idl l n)) (hi : i ≤ 900) (hs : s.size ≤ 4096) :
  Calls Tryz.prog 44 #[.pointer (some ⟨b2, 0, none⟩), .pointer (some ⟨b3, 0, none⟩)] w fun e w' => e = .returned (.int .i64 0) ∧ IsD w' d ok (mid l (putF l nEN (laidS s)) [cWn (laidS s)] (n + 1)) ∧ Good (i + 1) (mid l (putF l nEN (laidS s)) [cWn (laidS s)] (n + 1)) ∧ Kp ok w w' := by
 have hu := Tryz.underlying52
 have hz := laidS_le s
 have D := Aside0.mk hD
 have N := Aside0.mk hnew
 have G := Aside0.mk hg
 have HI := Aside0.mk hi
 have HS := Aside0.mk hs
 have hok : OkC (idl l n).now (cWn (laidS s)) := hg.okc (by omega) (by decide) (by decide) (by decide) (by simp only [BM]; omega) (fun e => absurd e (by decide))
 have G2 : Aside0 (Good (i + 1) (mid l (putF l nEN (laidS s)) [cWn (laidS s)] (n + 1))) := ⟨by
  have := hg.call (k := 1) (a := nEN) (b := ⟨#[]⟩) (s := laidS s) (n := 0) (by omega) (by decide) (by decide) (by decide) (by simp only [BM]; omega)
  unfold callK at this
  rw [if_neg (by decide), if_pos rfl, idl_write nEN_name] at this
  exact this⟩
 have HOK := Aside0.mk hok
 have HZ := Aside0.mk hz
 have N2 := Aside0.mk n2
 have N3 := Aside0.mk n3
 have NX := Aside0.mk nx
 clear hD hnew hg hi hs hz hok n2 n3 nx
 go_enter Tryz.func44, Tryz.ntmps44
 go_wp2_with (fail)
 go_region_held3 (fun w' => w'.cell? ⟨b2, 0, none⟩ = some (.pointer (some ⟨x, 0, none⟩)) ∧ w'.cell? ⟨b3, 0, none⟩ = some (.string s) ∧ w'.cell? ⟨x, 0, none⟩ = some (.pointer (some ⟨d, 0, none⟩))) (go_keep)
  ((first
   | (go_at_call 39; (with_reducible refine (extent_laid.calls 4000001 s (laidS s) _ (oct_laid s (by have := HS.out; omega) _ (by omega))).mono ?_); rintro e w5 ⟨rfl, hb⟩; have q2 : w5.cell? ⟨b2, 0, none⟩ = some (.pointer (some ⟨x, 0, none⟩)) := (hb.cell (World.block_lt_of_cell? _ _ (by exact k2))).trans (by exact k2); have q3 : w5.cell? ⟨b3, 0, none⟩ = some (.string s) := (hb.cell (World.block_lt_of_cell? _ _ (by exact k3))).trans (by exact k3); have qx : w5.cell? ⟨x, 0, none⟩ = some (.pointer (some ⟨d, 0, none⟩)) := (hb.cell (World.block_lt_of_cell? _ _ (by exact kx))).trans (by exact kx); have D5 : Aside0 (IsD w5 d ok (idl l n)) := ⟨D.out.step (fun k _ hk => hb.block k hk)⟩; have B5 : Aside0 (Below w.heap.size w w5) := ⟨(below_drew1 (Below.refl _ _)).trans hb⟩; clear hb)
   | (go_at_call 45; (with_reducible refine (write_calls (ok := ok) (st := idl l n) ?d1 ?d2 nEN (laidS s) (by decide) ⟨G.out.small (by have := HI.out; omega), by have := HZ.out; have := HS.out; omega⟩ (fun _ _ => G.out.can (by have := HI.out; omega) HOK.out)).mono ?_); (case d1 => exact D5.out.step (fun _ _ _ => rfl)); (case d2 => exact fun k hk => N.out k (Nat.le_trans B5.out.size hk)); rintro e w6 ⟨rfl, hI, hK⟩; rw [idl_write nEN_name] at hI ⊢; have D6 := Aside0.mk hI; have K6 : Aside0 (Kp ok w w6) := ⟨(Kp.of_below B5.out).trans hK⟩; have r2 := hK.cell N2.out q2; have r3 := hK.cell N3.out q3; have rx := hK.cell NX.out qx; clear hI hK)))
 all_goals go_wp2
 all_goals go_ret
 all_goals exact ⟨rfl, D6.out, G2.out, K6.out⟩
theorem put2_calls {w : World} {b2 b6 x d : Nat} {ok : Nat → Prop} {i : Nat} {l : Fs} {n : Int} {F id : ByteArray} (k2 : w.cell? ⟨b2, 0, none⟩ = some (.pointer (some ⟨x, 0, none⟩))) (k6 : w.cell? ⟨b6, 0, none⟩ = some (.string id)) (kx : w.cell? ⟨x, 0, none⟩ = some (.pointer (some ⟨d, 0, none⟩)))
  (n2 : ¬ ok b2) (n6 : ¬ ok b6) (nx : ¬ ok x) (hD : IsD w d ok (idl (putF l nEN F) n)) (hnew : ∀ k, w.heap.size ≤ k → ok k) (hg : Good i (idl (putF l nEN F) n)) (hi : i ≤ 900) (hr : Rises l) (hid : mayS id = true) (hno : hasF l nEN = false) :
  Calls Tryz.prog 46 #[.pointer (some ⟨b2, 0, none⟩), .pointer (some ⟨b6, 0, none⟩)] w fun e w' => e = .returned (.int .i64 0) ∧ IsD w' d ok (mid (putF l nEN F) (putF l (eId id) F) [cMn id] (n + 1)) ∧ Good (i + 1) (mid (putF l nEN F) (putF l (eId id) F) [cMn id] (n + 1)) ∧ Kp ok w w' := by
 have hu := Tryz.underlying52
 have hz := (mayS_iff.1 hid).2
 have hn := may_name hid
 have hh : hasF (putF l nEN F) nEN = true := hasF_iff.2 ⟨(nEN, F), mem_putF.2 (Or.inl rfl), rfl⟩
 have hmv := idl_move (n := n) nEN_name hn hh (fun e => e_new hid e.symm)
 rw [put_move hr (e_new hid) hno F] at hmv
 have hes : (eId id).size = 66 := by rw [eId_size, hz]
 have hok : OkC (idl (putF l nEN F) n).now (cMn id) := hg.okc (by omega) (by decide) (by decide) (by simp only [BM]; omega) (by decide) (fun e => absurd e (by decide))
 have G2 : Aside0 (Good (i + 1) (mid (putF l nEN F) (putF l (eId id) F) [cMn id] (n + 1))) := ⟨by
  have := hg.call (k := 2) (a := nEN) (b := eId id) (s := ⟨#[]⟩) (n := 0) (by omega) (by decide) (by decide) (by simp only [BM]; omega) (by decide)
  unfold callK at this
  rw [if_neg (by decide), if_neg (by decide), if_pos rfl, hmv] at this
  exact this⟩
 have hsz : ((⟨#[101, 46]⟩ : ByteArray).size + id.size > 9223372036854775807) = False := eq_false (by have e : (⟨#[101, 46]⟩ : ByteArray).size = 2 := rfl; omega)
 have hsz2 : (2 + id.size > 9223372036854775807) = False := eq_false (by omega)
 have hsz3 : (9223372036854775807 < 2 + id.size) = False := eq_false (by omega)
 have D := Aside0.mk hD
 have N := Aside0.mk hnew
 have G := Aside0.mk hg
 have HI := Aside0.mk hi
 have HOK := Aside0.mk hok
 have HES := Aside0.mk hes
 have N2 := Aside0.mk n2
 have N6 := Aside0.mk n6
 have NX := Aside0.mk nx
 have MV := Aside0.mk hmv
 clear hD hnew hg hi hok hz hn hh hmv hes hid hno hr n2 n6 nx
 go_enter Tryz.func46, Tryz.ntmps46
 go_wp2_with (fail)
 go_region_held3 (fun w' => w'.cell? ⟨b2, 0, none⟩ = some (.pointer (some ⟨x, 0, none⟩)) ∧ w'.cell? ⟨b6, 0, none⟩ = some (.string id) ∧ w'.cell? ⟨x, 0, none⟩ = some (.pointer (some ⟨d, 0, none⟩))) (go_keep)
  ((go_at_call 47; (with_reducible refine (move_calls (ok := ok) (st := idl (putF l nEN F) n) ?d1 ?d2 nEN (nE ++ id) (by decide) (by have h : (nE ++ id).size = 66 := HES.out; omega) (fun _ _ _ _ => G.out.can (by have := HI.out; omega) HOK.out)).mono ?_); (case d1 => exact D.out.step (fun _ _ _ => rfl)); (case d2 => exact fun k hk => N.out k hk); rintro e w6 ⟨rfl, hI, hK⟩; rw [MV.out] at hI ⊢; have D6 := Aside0.mk hI; have K6 : Aside0 (Kp ok w w6) := ⟨((Kp.refl _ _).drew).trans hK⟩; have r2 := K6.out.cell N2.out k2; have r6 := K6.out.cell N6.out k6; have rx := K6.out.cell NX.out kx; clear hI hK))
 all_goals go_wp2
 all_goals go_ret
 all_goals exact ⟨rfl, D6.out, G2.out, K6.out⟩
theorem Put_new {w : World} {x d : Nat} {ok : Nat → Prop} {i : Nat} {l : Fs} {n : Int} (h : Sto w x d ok i l n) (s : ByteArray) (h0 : 0 < s.size) (h1 : s.size ≤ 4096) (hh : hasX l (idS s) = false) (hno : hasF l nEN = false) (hi : i ≤ 800) :
  Calls Tryz.prog 19 #[.pointer (some ⟨x, 0, none⟩), .string s] w fun e w' => e = .returned (.tuple #[.string (idS s), .int .i64 0]) ∧ Sto w' x d ok (i + 2) (putF l (eId (idS s)) (laidS s)) (n + 2) ∧ Kp ok w w' := by
 have hu := Tryz.underlying52
 have H := Aside0.mk h
 have q1 : s.toList.isEmpty = false := by
  rw [← sameN_nil, ← Bool.not_eq_true, sameN_iff]
  rintro rfl
  exact absurd h0 (by decide)
 have q2 : ((s.size : Int) > 4096) = False := eq_false (by omega)
 have H1 := Aside0.mk h1
 have HH := Aside0.mk hh
 have HA2 := Aside0.mk (heap_alloc_new w (.cells #[.pointer (some ⟨x, 0, none⟩)] 24 (0, 0)))
 have HA3 := Aside0.mk (heap_alloc_new (w.alloc (.cells #[.pointer (some ⟨x, 0, none⟩)] 24 (0, 0))) (.cells #[.string s] 9 (0, 0)))
 have HNO := Aside0.mk hno
 have HI := Aside0.mk hi
 clear h h0 h1 hh hno hi
 go_enter Tryz.func19, Tryz.ntmps19
 go_wp2_with (fail)
 have hz : (w.alloc (.cells #[.pointer (some ⟨x, 0, none⟩)] 24 (0, 0))).heap.size = w.heap.size + 1 := by simp
 have b0 : Below w.heap.size w ((w.alloc (.cells #[.pointer (some ⟨x, 0, none⟩)] 24 (0, 0))).alloc (.cells #[.string s] 9 (0, 0))) := below_alloc (below_alloc (Below.refl _ _) _) _
 have hk2 : ((w.alloc (.cells #[.pointer (some ⟨x, 0, none⟩)] 24 (0, 0))).alloc (.cells #[.string s] 9 (0, 0))).heap[w.heap.size]? = some (.cells #[.pointer (some ⟨x, 0, none⟩)] 24 (0, 0)) := (Below.heap_alloc _ _ _ (by rw [hz]; omega)).trans HA2.out
 have hk3 := HA3.out
 rw [hz] at hk3
 have B0 := Aside0.mk b0
 have K2 := Aside0.mk hk2
 have K3 := Aside0.mk hk3
 clear hk2 hk3 b0 hz HA2 HA3
 generalize (w.alloc (.cells #[.pointer (some ⟨x, 0, none⟩)] 24 (0, 0))).alloc (.cells #[.string s] 9 (0, 0)) = w0 at B0 K2 K3 ⊢
 refine (ID_calls s (by have := H1.out; omega) _ (H.out.env.tab.below B0.out)).mono ?_
 rintro e w1 ⟨rfl, hb⟩
 have B1 := Aside0.mk (below_step B0.out hb)
 have K2 := Aside0.mk ((hb.block _ (lt_of_some K2.out)).trans K2.out)
 have K3 := Aside0.mk ((hb.block _ (lt_of_some K3.out)).trans K3.out)
 clear hb
 have b2 : Below w1.heap.size w1 (w1.alloc (.cells #[.string (idS s)] 9 (0, 0))) := below_alloc (Below.refl _ _) _
 have e2 : (w1.alloc (.cells #[.string (idS s)] 9 (0, 0))).cell? ⟨w.heap.size, 0, none⟩ = some (.pointer (some ⟨x, 0, none⟩)) := (blk_cell ((b2.block _ (lt_of_some K2.out)).trans K2.out) 0).trans rfl
 have e6 : (w1.alloc (.cells #[.string (idS s)] 9 (0, 0))).cell? ⟨w1.heap.size, 0, none⟩ = some (.string (idS s)) := (blk_cell (heap_alloc_new w1 _) 0).trans rfl
 go_wp2_with (fail)
 have B2 := Aside0.mk (below_step B1.out b2)
 have K2 := Aside0.mk ((b2.block _ (lt_of_some K2.out)).trans K2.out)
 have K3 := Aside0.mk ((b2.block _ (lt_of_some K3.out)).trans K3.out)
 have K6 := Aside0.mk (heap_alloc_new w1 (.cells #[.string (idS s)] 9 (0, 0)))
 clear b2 e2 e6
 generalize h6 : w1.heap.size = p6 at K6 ⊢
 have P6 := Aside0.mk h6
 clear h6
 generalize w1.alloc (.cells #[.string (idS s)] 9 (0, 0)) = w2 at B2 K2 K3 K6 ⊢
 refine (Has_calls (H.out.below B2.out) (idS s) (by rw [idS_size]; decide)).mono ?_
 rintro e w3 ⟨rfl, hb⟩
 rw [HH.out]
 have B3 := Aside0.mk (below_step B2.out hb)
 have K2 := Aside0.mk ((hb.block _ (lt_of_some K2.out)).trans K2.out)
 have K3 := Aside0.mk ((hb.block _ (lt_of_some K3.out)).trans K3.out)
 have K6 := Aside0.mk ((hb.block _ (lt_of_some K6.out)).trans K6.out)
 clear hb
 have c2 : w3.cell? ⟨w.heap.size, 0, none⟩ = some (.pointer (some ⟨x, 0, none⟩)) := (blk_cell K2.out 0).trans rfl
 have cx : w3.cell? ⟨x, 0, none⟩ = some (.pointer (some ⟨d, 0, none⟩)) := (blk_cell (H.out.env.below B3.out).blk 0).trans rfl
 go_upto_region 8 with (fail)
 go_cut [39, 40, 41] (fun u39 u40 u41 wx => u39 = .slice (some ⟨w3.heap.size, 0, none⟩) 4 4 ∧ u40 = .int .i64 4 ∧ u41 = .int .i64 0 ∧ (w3.alloc (.cells (fnsV w.heap.size (w.heap.size + 1) p6 d).toArray 86 (0, 0))).drew = wx)
 case first =>
  go_region_held3 (fun w' => w'.cell? ⟨w.heap.size, 0, none⟩ = some (.pointer (some ⟨x, 0, none⟩)) ∧ w'.cell? ⟨x, 0, none⟩ = some (.pointer (some ⟨d, 0, none⟩))) (go_keep) (fail)
  all_goals (go_wp2_with (fail); go_meet; (case rel => exact ⟨rfl, rfl, rfl, rfl⟩))
 case rest =>
  obtain ⟨rfl, rfl, rfl, hwx⟩ := hcut
  have HW := Aside0.mk hwx
  clear hwx c2 cx
  have NW : Aside0 (w3.heap.size + 1 = wc.heap.size) := ⟨by rw [← HW.out]; simp [World.drew]⟩
  have b4 : Below w3.heap.size w3 wc := by rw [← HW.out]; exact below_drew1 (below_alloc (Below.refl _ _) _)
  have KF : Aside0 (wc.heap[w3.heap.size]? = some (.cells (fnsV w.heap.size (w.heap.size + 1) p6 d).toArray 86 (0, 0))) := ⟨by rw [← HW.out]; exact heap_alloc_new w3 _⟩
  have B4 := Aside0.mk (below_step B3.out b4)
  have K2 := Aside0.mk ((b4.block _ (lt_of_some K2.out)).trans K2.out)
  have K3 := Aside0.mk ((b4.block _ (lt_of_some K3.out)).trans K3.out)
  have K6 := Aside0.mk ((b4.block _ (lt_of_some K6.out)).trans K6.out)
  clear b4
  obtain ⟨okp, hokp⟩ : ∃ okp : Nat → Prop, okp = fun k => (ok k ∧ k < w.heap.size) ∨ wc.heap.size ≤ k := ⟨_, rfl⟩
  have OKP := Aside0.mk hokp
  have D4 : Aside0 (IsD wc d okp (idl l n)) := ⟨by rw [hokp]; exact (H.out.disk.bound.below B4.out).mono (fun k hk => Or.inl hk)⟩
  have NEW : Aside0 (∀ k, wc.heap.size ≤ k → okp k) := ⟨by rw [hokp]; exact fun k hk => Or.inr hk⟩
  have NO : Aside0 (∀ k, w.heap.size ≤ k → k < wc.heap.size → ¬ okp k) := ⟨by rw [hokp]; rintro k h1 h2 (⟨_, h3⟩ | h3) <;> omega⟩
  have NOX : Aside0 (¬ okp x) := ⟨by rw [hokp]; rintro (⟨h3, _⟩ | h3); exact H.out.env.nox h3; have := H.out.env.lt; have := B4.out.size; omega⟩
  have L2 := Aside0.mk (lt_of_some K2.out)
  have L3 := Aside0.mk (lt_of_some K3.out)
  have L6 := Aside0.mk (lt_of_some K6.out)
  have LF := Aside0.mk (lt_of_some KF.out)
  have P6' : Aside0 (w.heap.size ≤ p6) := ⟨by have h1 := B1.out.size; have h2 := P6.out; omega⟩
  have L3' : Aside0 (w.heap.size ≤ w3.heap.size) := ⟨B3.out.size⟩
  have CX : Aside0 (wc.cell? ⟨x, 0, none⟩ = some (.pointer (some ⟨d, 0, none⟩))) := ⟨(blk_cell (H.out.env.below B4.out).blk 0).trans rfl⟩
  have OKM : Aside0 (∀ k, okp k → ok k) := ⟨by rw [hokp]; rintro k (⟨h3, _⟩ | h3); exact h3; exact H.out.env.new k (Nat.le_trans B4.out.size h3)⟩
  have OKI : Aside0 (∀ k, k < w.heap.size → okp k → ok k) := ⟨fun k _ hk => OKM.out k hk⟩
  clear hokp
  generalize hF : laidS s = F
  have HF := Aside0.mk hF
  clear hF
  go_wp2_with (fail)
  go_loopg [41] 5 (fun kq v41 w' => ∃ (j : Nat) (J : Int), v41 = .int .i64 J ∧ Aside0 (J = j ∧ j + kq = 5 ∧ j ≤ 4) ∧ Aside0 (IsD w' d okp (putSt l n F (idS s) j)) ∧ Aside0 (Good (putG i j) (putSt l n F (idS s) j)) ∧ Aside0 (Kp okp wc w'))
  case atStart => exact ⟨0, 0, rfl, ⟨rfl, rfl, by omega⟩, D4, ⟨H.out.good⟩, ⟨Kp.refl _ _⟩⟩
  case round =>
   clear D4
   obtain ⟨j, J, rfl, HJ, HD, HGD, HK⟩ := hrel
   cases gk with
   | zero => have := HJ.out; omega
   | succ k1 =>
    have hfn : wr.heap[w3.heap.size]? = some (.cells (fnsV w.heap.size (w.heap.size + 1) p6 d).toArray 86 (0, 0)) := (HK.out.block _ LF.out (NO.out _ L3'.out LF.out)).trans KF.out
    by_cases hj0 : j = 0
    ·subst hj0
     obtain rfl : J = 0 := HJ.out.1
     have f0 : wr.cell? ⟨w3.heap.size, 0, none⟩ = some (.func (.func 44) #[] #[.pointer (some ⟨w.heap.size, 0, none⟩), .pointer (some ⟨w.heap.size + 1, 0, none⟩)]) := (blk_cell hfn 0).trans rfl
     clear hfn
     go_wp2_with (fail)
     refine (put1_calls (i := i) (x := x) (d := d) (ok := okp) (l := l) (n := n) (s := s) (HK.out.cell (NO.out _ (Nat.le_refl _) L2.out) ((blk_cell K2.out 0).trans rfl)) (HK.out.cell (NO.out _ (Nat.le_succ _) L3.out) ((blk_cell K3.out 0).trans rfl)) (HK.out.cell NOX.out CX.out) (NO.out _ (Nat.le_refl _) L2.out) (NO.out _ (Nat.le_succ _) L3.out) NOX.out HD.out (fun k hk => NEW.out k (Nat.le_trans HK.out.size hk)) HGD.out (by have := HI.out; omega) H1.out).mono ?_
     rintro e w5 ⟨rfl, hI, hG, hK⟩
     rw [HF.out] at hI hG
     have D5 : Aside0 (IsD w5 d okp (putSt l n F (idS s) 1)) := ⟨hI⟩
     have G5 : Aside0 (Good (putG i 1) (putSt l n F (idS s) 1)) := ⟨hG⟩
     have K5 := Aside0.mk (HK.out.trans hK)
     clear hI hG hK
     go_wp2_with (fail)
     go_roundg k1
     case measure => have := HJ.out; omega
     case rel => exact ⟨1, 1, rfl, ⟨rfl, by have := HJ.out; omega, by omega⟩, D5, G5, K5⟩
    by_cases hj1 : j = 1
    ·subst hj1
     obtain rfl : J = 1 := HJ.out.1
     have f1 : wr.cell? ⟨w3.heap.size, 1, none⟩ = some (.func (.func 41) #[.pointer (some ⟨d, 0, none⟩)] #[]) := (blk_cell hfn 1).trans rfl
     clear hfn
     go_wp2_with (fail)
     refine (sync_calls HD.out (fun k hk => NEW.out k (Nat.le_trans HK.out.size hk))).mono ?_
     rintro e w5 ⟨rfl, hI, hK⟩
     rw [show syncE (putSt l n F (idS s) 1) = 0 from (mid_sync _ _ _ _).2]
     have D5 : Aside0 (IsD w5 d okp (putSt l n F (idS s) 2)) := ⟨by rw [show syncK (putSt l n F (idS s) 1) = idl (putF l nEN F) (n + 1) from (mid_sync _ _ _ _).1] at hI; exact hI⟩
     have G5 : Aside0 (Good (putG i 2) (putSt l n F (idS s) 2)) := ⟨by have := HGD.out.sync.1; rw [show syncK (putSt l n F (idS s) 1) = idl (putF l nEN F) (n + 1) from (mid_sync _ _ _ _).1] at this; exact this⟩
     have K5 := Aside0.mk (HK.out.trans hK)
     clear hI hK
     go_wp2_with (fail)
     go_roundg k1
     case measure => have := HJ.out; omega
     case rel => exact ⟨2, 2, rfl, ⟨rfl, by have := HJ.out; omega, by omega⟩, D5, G5, K5⟩
    by_cases hj2 : j = 2
    ·subst hj2
     obtain rfl : J = 2 := HJ.out.1
     have f2 : wr.cell? ⟨w3.heap.size, 2, none⟩ = some (.func (.func 46) #[] #[.pointer (some ⟨w.heap.size, 0, none⟩), .pointer (some ⟨p6, 0, none⟩)]) := (blk_cell hfn 2).trans rfl
     clear hfn
     go_wp2_with (fail)
     refine (put2_calls (i := i + 1) (x := x) (d := d) (ok := okp) (l := l) (n := n + 1) (F := F) (id := idS s) (HK.out.cell (NO.out _ (Nat.le_refl _) L2.out) ((blk_cell K2.out 0).trans rfl)) (HK.out.cell (NO.out _ P6'.out L6.out) ((blk_cell K6.out 0).trans rfl)) (HK.out.cell NOX.out CX.out) (NO.out _ (Nat.le_refl _) L2.out) (NO.out _ P6'.out L6.out) NOX.out HD.out (fun k hk => NEW.out k (Nat.le_trans HK.out.size hk)) HGD.out (by have := HI.out; omega) H.out.good.ris (idS_may s) HNO.out).mono ?_
     rintro e w5 ⟨rfl, hI, hG, hK⟩
     have D5 : Aside0 (IsD w5 d okp (putSt l n F (idS s) 3)) := ⟨hI⟩
     have G5 : Aside0 (Good (putG i 3) (putSt l n F (idS s) 3)) := ⟨hG⟩
     have K5 := Aside0.mk (HK.out.trans hK)
     clear hI hG hK
     go_wp2_with (fail)
     go_roundg k1
     case measure => have := HJ.out; omega
     case rel => exact ⟨3, 3, rfl, ⟨rfl, by have := HJ.out; omega, by omega⟩, D5, G5, K5⟩
    by_cases hj3 : j = 3
    ·subst hj3
     obtain rfl : J = 3 := HJ.out.1
     have f3 : wr.cell? ⟨w3.heap.size, 3, none⟩ = some (.func (.func 41) #[.pointer (some ⟨d, 0, none⟩)] #[]) := (blk_cell hfn 3).trans rfl
     clear hfn
     go_wp2_with (fail)
     refine (sync_calls HD.out (fun k hk => NEW.out k (Nat.le_trans HK.out.size hk))).mono ?_
     rintro e w5 ⟨rfl, hI, hK⟩
     rw [show syncE (putSt l n F (idS s) 3) = 0 from (mid_sync _ _ _ _).2]
     have D5 : Aside0 (IsD w5 d okp (putSt l n F (idS s) 4)) := ⟨by rw [show syncK (putSt l n F (idS s) 3) = idl (putF l (eId (idS s)) F) (n + 1 + 1) from (mid_sync _ _ _ _).1] at hI; exact hI⟩
     have G5 : Aside0 (Good (putG i 4) (putSt l n F (idS s) 4)) := ⟨by have := HGD.out.sync.1; rw [show syncK (putSt l n F (idS s) 3) = idl (putF l (eId (idS s)) F) (n + 1 + 1) from (mid_sync _ _ _ _).1] at this; exact this⟩
     have K5 := Aside0.mk (HK.out.trans hK)
     clear hI hK
     go_wp2_with (fail)
     go_roundg k1
     case measure => have := HJ.out; omega
     case rel => exact ⟨4, 4, rfl, ⟨rfl, by have := HJ.out; omega, by omega⟩, D5, G5, K5⟩
    ·obtain rfl : j = 4 := by have := HJ.out; omega
     obtain rfl : J = 4 := HJ.out.1
     have c6 : wr.cell? ⟨p6, 0, none⟩ = some (.string (idS s)) := HK.out.cell (NO.out _ P6'.out L6.out) ((blk_cell K6.out 0).trans rfl)
     clear hfn hj0 hj1 hj2 hj3
     go_wp2
     go_ret2
     have KW : Kp ok w wr := ⟨HK.out.os.trans B4.out.os, HK.out.tape.trans B4.out.tape, HK.out.output.trans B4.out.output, Nat.le_trans B4.out.size HK.out.size, fun k hk hno => (HK.out.block k (Nat.lt_of_lt_of_le hk B4.out.size) (fun h => hno (OKI.out k hk h))).trans (B4.out.block k hk)⟩
     refine ⟨rfl, ⟨H.out.env.keep KW, ?_, ?_, ?_⟩, KW⟩
     ·rw [HF.out, show n + 2 = n + 1 + 1 by omega]
      exact HD.out.mono (fun k hk => OKM.out k hk)
     ·rw [HF.out, show n + 2 = n + 1 + 1 by omega]
      exact HGD.out
     ·intro p hp
      rcases mem_putF.1 hp with rfl | ⟨hp, _⟩
      ·have := laidS_le s; have := H1.out; show (laidS s).size ≤ _; omega
      ·exact H.out.sml p hp
theorem Put_has {w : World} {x d : Nat} {ok : Nat → Prop} {i : Nat} {l : Fs} {n : Int} (h : Sto w x d ok i l n) (s : ByteArray) (h0 : 0 < s.size) (h1 : s.size ≤ 4096) (hh : hasX l (idS s) = true) :
  Calls Tryz.prog 19 #[.pointer (some ⟨x, 0, none⟩), .string s] w fun e w' => e = .returned (.tuple #[.string (idS s), .int .i64 0]) ∧ Below w.heap.size w w' := by
 have hu := Tryz.underlying52
 have H := Aside0.mk h
 have q1 : s.toList.isEmpty = false := by
  rw [← sameN_nil, ← Bool.not_eq_true, sameN_iff]
  rintro rfl
  exact absurd h0 (by decide)
 have q2 : ((s.size : Int) > 4096) = False := eq_false (by omega)
 have H1 := Aside0.mk h1
 have HH := Aside0.mk hh
 have HA2 := Aside0.mk (heap_alloc_new w (.cells #[.pointer (some ⟨x, 0, none⟩)] 24 (0, 0)))
 have HA3 := Aside0.mk (heap_alloc_new (w.alloc (.cells #[.pointer (some ⟨x, 0, none⟩)] 24 (0, 0))) (.cells #[.string s] 9 (0, 0)))
 clear h h0 h1 hh
 go_enter Tryz.func19, Tryz.ntmps19
 go_wp2_with (fail)
 have hz : (w.alloc (.cells #[.pointer (some ⟨x, 0, none⟩)] 24 (0, 0))).heap.size = w.heap.size + 1 := by simp
 have b0 : Below w.heap.size w ((w.alloc (.cells #[.pointer (some ⟨x, 0, none⟩)] 24 (0, 0))).alloc (.cells #[.string s] 9 (0, 0))) := below_alloc (below_alloc (Below.refl _ _) _) _
 have hk2 : ((w.alloc (.cells #[.pointer (some ⟨x, 0, none⟩)] 24 (0, 0))).alloc (.cells #[.string s] 9 (0, 0))).heap[w.heap.size]? = some (.cells #[.pointer (some ⟨x, 0, none⟩)] 24 (0, 0)) := (Below.heap_alloc _ _ _ (by rw [hz]; omega)).trans HA2.out
 have hk3 := HA3.out
 rw [hz] at hk3
 have B0 := Aside0.mk b0
 have K2 := Aside0.mk hk2
 have K3 := Aside0.mk hk3
 clear hk2 hk3 b0 hz HA2 HA3
 generalize (w.alloc (.cells #[.pointer (some ⟨x, 0, none⟩)] 24 (0, 0))).alloc (.cells #[.string s] 9 (0, 0)) = w0 at B0 K2 K3 ⊢
 refine (ID_calls s (by have := H1.out; omega) _ (H.out.env.tab.below B0.out)).mono ?_
 rintro e w1 ⟨rfl, hb⟩
 have B1 := Aside0.mk (below_step B0.out hb)
 have K2 := Aside0.mk ((hb.block _ (lt_of_some K2.out)).trans K2.out)
 have K3 := Aside0.mk ((hb.block _ (lt_of_some K3.out)).trans K3.out)
 clear hb
 have b2 : Below w1.heap.size w1 (w1.alloc (.cells #[.string (idS s)] 9 (0, 0))) := below_alloc (Below.refl _ _) _
 have e2 : (w1.alloc (.cells #[.string (idS s)] 9 (0, 0))).cell? ⟨w.heap.size, 0, none⟩ = some (.pointer (some ⟨x, 0, none⟩)) := (blk_cell ((b2.block _ (lt_of_some K2.out)).trans K2.out) 0).trans rfl
 have e6 : (w1.alloc (.cells #[.string (idS s)] 9 (0, 0))).cell? ⟨w1.heap.size, 0, none⟩ = some (.string (idS s)) := (blk_cell (heap_alloc_new w1 _) 0).trans rfl
 go_wp2_with (fail)
 have B2 := Aside0.mk (below_step B1.out b2)
 have K2 := Aside0.mk ((b2.block _ (lt_of_some K2.out)).trans K2.out)
 have K3 := Aside0.mk ((b2.block _ (lt_of_some K3.out)).trans K3.out)
 have K6 := Aside0.mk (heap_alloc_new w1 (.cells #[.string (idS s)] 9 (0, 0)))
 clear b2 e2 e6
 generalize h6 : w1.heap.size = p6 at K6 ⊢
 have P6 := Aside0.mk h6
 clear h6
 generalize w1.alloc (.cells #[.string (idS s)] 9 (0, 0)) = w2 at B2 K2 K3 K6 ⊢
 refine (Has_calls (H.out.below B2.out) (idS s) (by rw [idS_size]; decide)).mono ?_
 rintro e w3 ⟨rfl, hb⟩
 rw [HH.out]
 have B3 := Aside0.mk (below_step B2.out hb)
 have K2 := Aside0.mk ((hb.block _ (lt_of_some K2.out)).trans K2.out)
 have K3 := Aside0.mk ((hb.block _ (lt_of_some K3.out)).trans K3.out)
 have K6 := Aside0.mk ((hb.block _ (lt_of_some K6.out)).trans K6.out)
 clear hb
 have c6 : w3.cell? ⟨p6, 0, none⟩ = some (.string (idS s)) := (blk_cell K6.out 0).trans rfl
 go_wp2
 go_ret2
 exact ⟨rfl, B3.out⟩
theorem Put_bad {w : World} {x : Nat} (s : ByteArray) (h0 : s.size = 0 ∨ 4096 < s.size) :
  Calls Tryz.prog 19 #[.pointer (some ⟨x, 0, none⟩), .string s] w fun e w' => e = .returned (.tuple #[.string (⟨#[]⟩ : ByteArray), .int .i64 (putE s)]) ∧ Below w.heap.size w w' := by
 have hu := Tryz.underlying52
 have b0 : Aside0 (Below w.heap.size w ((w.alloc (.cells #[.pointer (some ⟨x, 0, none⟩)] 24 (0, 0))).alloc (.cells #[.string s] 9 (0, 0)))) := ⟨below_alloc (below_alloc (Below.refl _ _) _) _⟩
 by_cases hz : s.size = 0
 ·have q1 : s.toList.isEmpty = true := by
   rw [← sameN_nil, sameN_iff]
   exact ba_inj (List.length_eq_zero_iff.1 (by rw [tl_len]; exact hz))
  have HE : Aside0 (putE s = 1) := ⟨if_pos hz⟩
  clear h0 hz
  go_enter Tryz.func19, Tryz.ntmps19
  go_wp2
  go_ret2
  exact ⟨by rw [HE.out]; rfl, b0.out⟩
 ·have q1 : s.toList.isEmpty = false := by
   rw [← sameN_nil, ← Bool.not_eq_true, sameN_iff]
   rintro rfl
   exact absurd rfl hz
  have q2 : ((s.size : Int) > 4096) = True := eq_true (by omega)
  have HE : Aside0 (putE s = 2) := ⟨by unfold putE; rw [if_neg hz, if_pos (by omega)]⟩
  clear h0 hz
  go_enter Tryz.func19, Tryz.ntmps19
  go_wp2
  go_ret2
  exact ⟨by rw [HE.out]; rfl, b0.out⟩
theorem Sto.mono {w : World} {x d : Nat} {ok : Nat → Prop} {i j : Nat} {l : Fs} {n : Int} (h : Sto w x d ok i l n) (hij : i ≤ j) : Sto w x d ok j l n := ⟨h.env, h.disk, h.good.mono hij, h.sml⟩
theorem Put_calls {w : World} {x d : Nat} {ok : Nat → Prop} {i : Nat} {l : Fs} {n : Int} (h : Sto w x d ok i l n) (s : ByteArray) (hno : hasF l nEN = false) (hi : i ≤ 800) :
  Calls Tryz.prog 19 #[.pointer (some ⟨x, 0, none⟩), .string s] w fun e w' => e = .returned (.tuple #[.string (putI s), .int .i64 (putE s)]) ∧ (∃ n', Sto w' x d ok (i + 2) (putX l s) n') ∧ Kp ok w w' := by
 by_cases hb : s.size = 0 ∨ 4096 < s.size
 ·refine (Put_bad s hb).mono ?_
  rintro e w' ⟨rfl, hw⟩
  refine ⟨by unfold putI; rw [if_pos hb], ⟨n, ?_⟩, Kp.of_below hw⟩
  unfold putX
  rw [if_pos (by omega)]
  exact (h.below hw).mono (by omega)
 ·have hE : putE s = 0 := by unfold putE; rw [if_neg (by omega), if_neg (by omega)]
  have hI : putI s = idS s := if_neg hb
  rw [hE, hI]
  cases hh : hasX l (idS s) with
  | true =>
   refine (Put_has h s (by omega) (by omega) hh).mono ?_
   rintro e w' ⟨rfl, hw⟩
   refine ⟨rfl, ⟨n, ?_⟩, Kp.of_below hw⟩
   unfold putX
   rw [if_pos (Or.inr (Or.inr hh))]
   exact (h.below hw).mono (by omega)
  | false =>
   refine (Put_new h s (by omega) (by omega) hh hno hi).mono ?_
   rintro e w' ⟨rfl, hw, hk⟩
   refine ⟨rfl, ⟨n + 2, ?_⟩, hk⟩
   unfold putX
   rw [if_neg (fun h => by rcases h with h | h | h; exact hb (Or.inl h); exact hb (Or.inr h); rw [hh] at h; cases h)]
   exact hw
end Go.Proofs.YtpgbkeaaklglkaaGreatDoor.Q
namespace Go.Proofs.YtpgbkeaaklglkaaGreatDoor.Q
open Go.Maps Go.WideShapes Go.WideMaps Go.RowKit Go.Proofs.YtpgbkeaaklglkaaGreatDoorW.PrintWords Go.Proofs.YtpgbkeaaklglkaaGreatDoorW.PrintLast Go.Proofs.YtpgbkeaaklglkaaGreatDoorW.PrintMore
set_option linter.unusedVariables false
set_option linter.unusedSimpArgs false
set_option maxHeartbeats 10000000
set_option maxRecDepth 100000
/-! a disk that is opened -/
noncomputable def badX (l : Fs) (id : ByteArray) : Bool := !rightS id (getF l (eId id))
noncomputable def badL (l : Fs) (ids : List ByteArray) : List ByteArray := (ids.filter (badX l)).map eId
def newL (l : Fs) : List ByteArray := if hasF l nEN = true then [nEN] else []
noncomputable def goneX (l : Fs) : List ByteArray := newL l ++ badL l (allX l)
noncomputable def manyX (l : Fs) : Nat := (badL l (allX l)).length
noncomputable def openX (l : Fs) : Fs := delsF l (goneX l)
theorem badL_snoc (l : Fs) (ids : List ByteArray) (id : ByteArray) : badL l (ids ++ [id]) = badL l ids ++ (if badX l id = true then [eId id] else []) := by
 unfold badL
 rw [List.filter_append, List.map_append]
 congr 1
 rw [List.filter_cons]
 split <;> rfl
theorem badL_len (l : Fs) (ids : List ByteArray) : (badL l ids).length ≤ ids.length := by
 unfold badL
 rw [List.length_map]
 exact List.length_filter_le _ _
theorem newL_len (l : Fs) : (newL l).length ≤ 1 := by unfold newL; split <;> simp
theorem mem_allX {l : Fs} {id : ByteArray} : id ∈ allX l ↔ mayS id = true ∧ hasF l (eId id) = true := by
 unfold allX
 rw [List.mem_map]
 constructor
 ·rintro ⟨n, hn, rfl⟩
  obtain ⟨h1, h2⟩ := List.mem_filter.1 hn
  obtain ⟨id, h3, rfl⟩ := isX_iff.1 h2
  obtain ⟨p, hp, e⟩ := List.mem_map.1 h1
  rw [show idX (nE ++ id) = id from idX_e id]
  exact ⟨h3, hasF_iff.2 ⟨p, hp, e⟩⟩
 ·rintro ⟨h1, h2⟩
  obtain ⟨p, hp, e⟩ := hasF_iff.1 h2
  exact ⟨eId id, List.mem_filter.2 ⟨List.mem_map.2 ⟨p, hp, e⟩, isX_e h1⟩, idX_e id⟩
theorem allX_nodup {l : Fs} (h : Rises l) : (allX l).Nodup := by
 unfold allX
 have h0 : ((l.map (·.1)).filter isX).Nodup := by
  refine List.Pairwise.filter _ ?_
  rw [List.pairwise_map]
  exact h.imp (fun h => ltN_ne h)
 refine (List.pairwise_map.2 (h0.imp_of_mem ?_))
 intro a b ha hb hab e
 obtain ⟨i, _, rfl⟩ := isX_iff.1 (List.mem_filter.1 ha).2
 obtain ⟨j, _, rfl⟩ := isX_iff.1 (List.mem_filter.1 hb).2
 rw [show idX (nE ++ i) = i from idX_e i, show idX (nE ++ j) = j from idX_e j] at e
 exact hab (by rw [e])
theorem mem_badL {l : Fs} {ids : List ByteArray} {g : ByteArray} : g ∈ badL l ids ↔ ∃ id, id ∈ ids ∧ badX l id = true ∧ g = eId id := by
 unfold badL
 rw [List.mem_map]
 constructor
 ·rintro ⟨id, h, rfl⟩
  exact ⟨id, (List.mem_filter.1 h).1, (List.mem_filter.1 h).2, rfl⟩
 ·rintro ⟨id, h1, h2, rfl⟩
  exact ⟨id, List.mem_filter.2 ⟨h1, h2⟩, rfl⟩
theorem gone_spec {l : Fs} (h : Rises l) : (∀ g ∈ goneX l, nameS g = true ∧ hasF l g = true) ∧ (goneX l).Nodup := by
 constructor
 ·intro g hg
  rcases List.mem_append.1 hg with hg | hg
  ·unfold newL at hg
   split at hg
   ·rename_i hh
    rw [List.mem_singleton] at hg
    subst hg
    exact ⟨nEN_name, hh⟩
   ·cases hg
  ·obtain ⟨id, h1, _, rfl⟩ := mem_badL.1 hg
   obtain ⟨h2, h3⟩ := mem_allX.1 h1
   exact ⟨may_name h2, h3⟩
 ·unfold goneX
  rw [List.nodup_append]
  refine ⟨?_, ?_, ?_⟩
  ·unfold newL; split <;> simp
  ·unfold badL
   exact (List.pairwise_map.2 ((List.Pairwise.filter _ (allX_nodup h)).imp (fun hab e => hab (eId_inj e))))
  ·intro a ha b hb e
   unfold newL at ha
   split at ha
   ·rw [List.mem_singleton] at ha
    subst ha
    obtain ⟨id, h1, _, rfl⟩ := mem_badL.1 hb
    exact e_new (mem_allX.1 h1).1 e.symm
   ·cases ha
theorem Open_calls {w : World} {d : Nat} {ok : Nat → Prop} {i : Nat} {l : Fs} {n : Int} (hG : InG w) (h0 : ¬ ok 0) (hnew : ∀ k, w.heap.size ≤ k → ok k) (hD : IsD w d ok (idl l n)) (hg : Good i (idl l n)) (hs : Sml l) (hi : i + l.length ≤ 800) :
  Calls Tryz.prog 4 #[.pointer (some ⟨d, 0, none⟩)] w fun e w' => ∃ x : Nat, e = .returned (.tuple #[.pointer (some ⟨x, 0, none⟩), .int .i64 (manyX l : Nat), .int .i64 0]) ∧ w.heap.size ≤ x ∧ Sto w' x d (fun k => ok k ∧ k ≠ x) (i + (goneX l).length) (openX l) (n + (goneX l).length) ∧ Kp ok w w' := by
 have hu := Tryz.underlying52
 have G := Aside0.mk hG
 have N0 := Aside0.mk h0
 have N := Aside0.mk hnew
 have D := Aside0.mk hD
 have GD := Aside0.mk hg
 have SM := Aside0.mk hs
 have HI := Aside0.mk hi
 have HLN := Aside0.mk (allX_len l)
 have GS := Aside0.mk (gone_spec hg.ris)
 clear hG h0 hnew hD hg hs hi
 go_enter Tryz.func4, Tryz.ntmps4
 go_wp2_with (fail)
 refine (down_calls D.out).mono ?_
 rintro e w1 ⟨rfl, rfl⟩
 have b1 : Below w1.heap.size w1 (w1.alloc (.cells #[.pointer (some ⟨d, 0, none⟩)] 52 (0, 0))) := below_alloc (Below.refl _ _) _
 have S1 : Aside0 (IsSt (w1.alloc (.cells #[.pointer (some ⟨d, 0, none⟩)] 52 (0, 0))) w1.heap.size d) := ⟨heap_alloc_new w1 _⟩
 have NW : Aside0 (w1.heap.size < (w1.alloc (.cells #[.pointer (some ⟨d, 0, none⟩)] 52 (0, 0))).heap.size) := ⟨by simp⟩
 have D1 := Aside0.mk (D.out.below b1)
 have B1 := Aside0.mk b1
 go_wp2_with (fail)
 generalize w1.alloc (.cells #[.pointer (some ⟨d, 0, none⟩)] 52 (0, 0)) = w2 at S1 NW D1 B1 ⊢
 clear b1
 refine (read_calls D1.out nEN (by decide)).mono ?_
 rintro e w3 ⟨rfl, hb⟩
 have B3 := Aside0.mk (below_step B1.out hb)
 have S3 : Aside0 (IsSt w3 w1.heap.size d) := ⟨(hb.block _ NW.out).trans S1.out⟩
 have D3 := Aside0.mk (D1.out.below hb)
 have N3 : Aside0 (w1.heap.size < w3.heap.size) := ⟨Nat.lt_of_lt_of_le NW.out hb.size⟩
 clear hb S1 D1 B1 NW
 have HQ : Aside0 ((readE (idl l n) nEN == 0) = hasF l nEN) := ⟨by rw [(read_idl l n nEN_name).1]; cases hasF l nEN <;> rfl⟩
 generalize readE (idl l n) nEN = q0 at HQ ⊢
 generalize readS (idl l n) nEN = q1
 go_upto_if 30 with (fail)
 go_cut [7] (fun u7 wx => Aside0 (Kd.string.R 9 wx w3.heap.size (fun k => w3.heap.size ≤ k) u7 (newL l)) ∧ Aside0 (Below w3.heap.size w3 wx))
 case first =>
  cases hh : hasF l nEN with
  | false =>
   have HE : Aside0 (newL l = []) := ⟨if_neg (by rw [hh]; simp)⟩
   have hq := HQ.out
   rw [hh] at hq
   clear hh
   go_wp2_with (fail)
   go_meet
   case rel => exact ⟨⟨by rw [HE.out]; exact Kd.R_nil _ _ _ _ _⟩, ⟨Below.refl _ _⟩⟩
  | true =>
   have HE : Aside0 (newL l = [] ++ [nEN]) := ⟨if_pos hh⟩
   have hq := HQ.out
   rw [hh] at hq
   clear hh
   go_wp2_with (first | ((with_reducible refine gate_builtin (b := .append) (xs := #[.tmp 31, .tmp 32]) rfl ?_); at_builtin; refine Kd.R_append Kd.string (w0 := w3) w3.heap.size rfl (.tmp 31) (.tmp 32) 22 9 (.string ⟨#[]⟩) 16 rfl Tryz.underlying22 info9 rfl (by decide) (by omega) (.slice none 0 0) [] nEN [.string nEN] (fun k => w3.heap.size ≤ k) (fun _ => False) rfl rfl rfl (fun _ hk => hk.elim) (fun k hk => hk) (Kd.R_nil _ _ _ _ _) (Below.refl _ _) (Nat.le_refl _) (by decide) ?_; intro v5 w5 ho hb hg hat; have HO5 := Aside0.mk ho; have HB5 := Aside0.mk hb; clear ho hb hg hat))
   go_meet
   case rel => exact ⟨⟨by rw [HE.out]; exact HO5.out⟩, HB5⟩
 case rest =>
  obtain ⟨RN, BN⟩ := hcut
  have B4 := Aside0.mk (B3.out.trans (BN.out.mono B3.out.size))
  have S4 : Aside0 (IsSt wc w1.heap.size d) := ⟨(BN.out.block _ N3.out).trans S3.out⟩
  have D4 := Aside0.mk (D3.out.below BN.out)
  have N4 : Aside0 (w3.heap.size ≤ wc.heap.size) := ⟨BN.out.size⟩
  clear HQ
  go_wp2_with (fail)
  refine (All_calls S4.out D4.out rfl GD.out.ris GD.out.named (by have := HI.out; show l.length ≤ _; omega)).mono ?_
  rintro e w5 ⟨v, rfl, hR, hb⟩
  rw [show (idl l n).now = l from rfl] at hR
  obtain ⟨A, c, rfl, hlc, hC⟩ := Kd.R_reads hR
  obtain ⟨m, hm⟩ : ∃ m, m = (allX l).length := ⟨_, rfl⟩
  have HM := Aside0.mk hm
  have RA := Aside0.mk (Kd.R_mono (Kd.R_bound hR) (ok' := fun k => wc.heap.size ≤ k ∧ k < w5.heap.size) (fun k hk => ⟨hk.1, hk.2.2.1⟩))
  have HON : Aside0 (∀ k, u7.ownBlock = some k → k < wc.heap.size ∨ w5.heap.size ≤ k) := ⟨fun k hk => Or.inl ((Kd.R_bound RN.out).1 k hk).2.2.1⟩
  rw [← hm] at RA ⊢
  have B5 := Aside0.mk (below_step B4.out hb)
  have S5 : Aside0 (IsSt w5 w1.heap.size d) := ⟨(hb.block _ (lt_of_some S4.out)).trans S4.out⟩
  have D5 := Aside0.mk (D4.out.below hb)
  have R5 := Aside0.mk (Kd.R_below RN.out hb)
  have B35 : Aside0 (Below w3.heap.size w3 w5) := ⟨BN.out.trans (hb.mono N4.out)⟩
  clear hR hb hC hlc hm S4 D4 RN BN
  go_wp2_with (fail)
  go_loopg [6, 7, 37] (m + 1) (fun kq v6 v7 v37 w' => ∃ (j : Nat) (K : Int), v37 = .int .i64 (j : Int) ∧ v6 = .int .i64 K ∧ Aside0 (j + kq = m + 1 ∧ j ≤ m ∧ K = ((badL l ((allX l).take j)).length : Nat)) ∧ Aside0 (Kd.string.R 9 w' w3.heap.size (fun k => w3.heap.size ≤ k) v7 (newL l ++ badL l ((allX l).take j))) ∧ Aside0 (Below w3.heap.size w3 w' ∧ w5.heap.size ≤ w'.heap.size) ∧ Aside0 (Kd.string.R 9 w' wc.heap.size (fun k => wc.heap.size ≤ k ∧ k < w5.heap.size) (.slice A m c) (allX l)) ∧ Aside0 (∀ k, v7.ownBlock = some k → k < wc.heap.size ∨ w5.heap.size ≤ k))
  case atStart => exact ⟨0, 0, rfl, rfl, ⟨by omega, by omega, rfl⟩, ⟨by rw [List.take_zero, show badL l [] = [] from rfl, List.append_nil]; exact R5.out⟩, ⟨B35.out, Nat.le_refl _⟩, RA, HON⟩
  case round =>
   clear R5 RA HON
   obtain ⟨j, K, rfl, rfl, HJ, HR7, HB, HA, HO⟩ := hrel
   cases gk with
   | zero => have := HJ.out; omega
   | succ k1 =>
    have HBL : Aside0 ((badL l ((allX l).take j)).length ≤ 1000) := ⟨by have h1 := badL_len l ((allX l).take j); rw [List.length_take] at h1; have := HLN.out; have := HI.out; omega⟩
    by_cases hj : j < m
    ·have hlt : ((j : Int) < (m : Int)) = True := eq_true (by omega)
     have hj2 : j < (allX l).length := by have := HM.out; omega
     obtain ⟨id, hid⟩ : ∃ id, (allX l)[j]? = some id := ⟨_, List.getElem?_eq_getElem hj2⟩
     have hmem : id ∈ allX l := List.mem_of_getElem? hid
     have hrd : rdOf ByteArray.empty (allX l) (j : Int) = id := by
      unfold rdOf
      rw [Int.toNat_natCast, List.getD_eq_getElem?_getD, hid]
      rfl
     have HTK : Aside0 ((allX l).take (j + 1) = (allX l).take j ++ [id]) := ⟨by
      obtain ⟨hl, hx⟩ := List.getElem?_eq_some_iff.1 hid
      rw [List.take_succ_eq_append_getElem hl, hx]⟩
     have HMY := Aside0.mk (mem_allX.1 hmem)
     have HZ : Aside0 (id.size = 64) := ⟨(mayS_iff.1 HMY.out.1).2⟩
     obtain ⟨ad, e, h0⟩ := (Kd.reads_of_C (enc := Value.string) (d := ByteArray.empty) ((Kd.R_reads' HA.out).2.2)).at_ (j : Int) (by omega) (by omega)
     rw [Int.toNat_natCast, hrd] at h0
     subst e
     have hsz : ((⟨#[101, 46]⟩ : ByteArray).size + id.size > 9223372036854775807) = False := eq_false (by have := HZ.out; have e : (⟨#[101, 46]⟩ : ByteArray).size = 2 := rfl; omega)
     have hsz2 : (2 + id.size > 9223372036854775807) = False := eq_false (by have := HZ.out; omega)
     have hsz3 : (9223372036854775807 < 2 + id.size) = False := eq_false (by have := HZ.out; omega)
     clear hid hmem hj2 hrd
     go_wp2_with (fail)
     refine (read_calls (D3.out.below HB.out.1) (nE ++ id) (by rw [eId_size]; have := HZ.out; omega)).mono ?_
     rintro e w6 ⟨rfl, hb⟩
     have B6 : Aside0 (Below w3.heap.size w3 w6 ∧ w5.heap.size ≤ w6.heap.size) := ⟨below_step HB.out.1 hb, Nat.le_trans HB.out.2 hb.size⟩
     have A6 := Aside0.mk (Kd.R_below HA.out hb)
     have R6 := Aside0.mk (Kd.R_below HR7.out hb)
     clear hb h0 HR7 HB HA
     rw [(read_idl l n (may_name HMY.out.1)).1, (read_idl l n (may_name HMY.out.1)).2, if_pos HMY.out.2, if_pos HMY.out.2]
     go_wp2_with (fail)
     refine (read_calls' id (getF l (nE ++ id)) (getF_small SM.out _) w6 (G.out.below (B3.out.trans (B6.out.1.mono B3.out.size)))).mono ?_
     rintro e w7 ⟨rfl, hb⟩
     have B7 : Aside0 (Below w3.heap.size w3 w7 ∧ w5.heap.size ≤ w7.heap.size) := ⟨below_step B6.out.1 hb, Nat.le_trans B6.out.2 hb.size⟩
     have A7 := Aside0.mk (Kd.R_below A6.out hb)
     have R7 := Aside0.mk (Kd.R_below R6.out hb)
     clear hb R6 A6
     cases hr : rightS id (getF l (nE ++ id)) with
     | true =>
      have HS2 : Aside0 (badL l ((allX l).take (j + 1)) = badL l ((allX l).take j)) := ⟨by rw [HTK.out, badL_snoc, if_neg (by unfold badX; rw [show getF l (eId id) = getF l (nE ++ id) from rfl, hr]; simp), List.append_nil]⟩
      clear hr
      go_wp2_with (fail)
      go_roundg k1
      case measure => have := HJ.out; omega
      case rel => exact ⟨j + 1, K, by rw [IntWalk.wrap64_in _ (by have := HI.out; have := HLN.out; have := HM.out; omega)]; rfl, rfl, ⟨by have := HJ.out; omega, by omega, by rw [HS2.out]; exact HJ.out.2.2⟩, ⟨by rw [HS2.out]; exact R7.out⟩, B7, A7, HO⟩
     | false =>
      have HS2 : Aside0 (badL l ((allX l).take (j + 1)) = badL l ((allX l).take j) ++ [eId id]) := ⟨by rw [HTK.out, badL_snoc, if_pos (by unfold badX; rw [show getF l (eId id) = getF l (nE ++ id) from rfl, hr]; rfl)]⟩
      have HNL : Aside0 ((newL l ++ badL l ((allX l).take j)).length ≤ 2000) := ⟨by rw [List.length_append]; have := newL_len l; have := HBL.out; omega⟩
      have B37 : Aside0 (Below w3.heap.size w3 w7) := ⟨B7.out.1⟩
      clear hr
      go_wp2_with (first | ((with_reducible refine gate_builtin (b := .append) (xs := #[.tmp 56, .tmp 59]) rfl ?_); at_builtin; refine Kd.R_append Kd.string (w0 := w3) w3.heap.size rfl (.tmp 56) (.tmp 59) 22 9 (.string ⟨#[]⟩) 16 rfl Tryz.underlying22 info9 rfl (by decide) (by omega) u7 (newL l ++ badL l ((allX l).take j)) (nE ++ id) [.string (nE ++ id)] (fun k => w3.heap.size ≤ k) (fun _ => False) rfl rfl rfl (fun _ hk => hk.elim) (fun k hk => Nat.le_trans B37.out.size hk) R7.out B37.out B37.out.size ?aL ?_; (case aL => have := HNL.out; omega); intro v8 w8 ho hb hg hat; have HO8 := Aside0.mk ho; have HB8 := Aside0.mk hb; have HG8 := Aside0.mk hg; have HT8 := Aside0.mk hat; clear ho hb hg hat))
      go_roundg k1
      case measure => have := HJ.out; omega
      case rel =>
       refine ⟨j + 1, K + 1, by rw [IntWalk.wrap64_in _ (by have := HI.out; have := HLN.out; have := HM.out; omega)]; rfl, by rw [IntWalk.wrap64_in _ (by have := HJ.out; have := HBL.out; omega)], ⟨by have := HJ.out; omega, by omega, by rw [HS2.out, List.length_append]; have := HJ.out.2.2; simp only [List.length_cons, List.length_nil]; omega⟩, ⟨by rw [HS2.out, ← List.append_assoc]; exact HO8.out⟩, ⟨HB8.out, Nat.le_trans B7.out.2 HG8.out.size⟩, ⟨Kd.R_step A7.out (fun k hk hlt => HG8.out.block k hlt (fun e => by have := HO.out k e.symm; omega))⟩, ⟨?_⟩⟩
       intro k hk
       rcases HT8.out with e | ⟨b, e, hb⟩
       ·exact HO.out k (by rw [← e]; exact hk)
       ·rw [e] at hk
        obtain rfl := Option.some.inj hk
        exact Or.inr (Nat.le_trans B7.out.2 hb)
    ·obtain rfl : j = m := by have := HJ.out; omega
     have hlt : ((j : Int) < (j : Int)) = False := eq_false (by omega)
     obtain ⟨A7, c7, rfl, hlc7, hC7⟩ := Kd.R_reads HR7.out
     have hgone : newL l ++ badL l ((allX l).take j) = goneX l := by rw [HM.out, List.take_length]; rfl
     have hK : K = (manyX l : Nat) := by rw [HJ.out.2.2, HM.out, List.take_length]; rfl
     rw [hgone] at HR7
     rw [hgone]
     subst hK
     have HLG : Aside0 ((goneX l).length ≤ l.length + 1) := ⟨by unfold goneX; rw [List.length_append]; have h1 := newL_len l; have h2 := badL_len l (allX l); have := HLN.out; omega⟩
     have B9 : Aside0 (Below w1.heap.size w1 wr) := ⟨B3.out.trans (HB.out.1.mono B3.out.size)⟩
     obtain ⟨okp, hokp⟩ : ∃ okp : Nat → Prop, okp = fun k => (ok k ∧ k < w1.heap.size) ∨ wr.heap.size ≤ k := ⟨_, rfl⟩
     have DP : Aside0 (IsD wr d okp (idl l n)) := ⟨by rw [hokp]; exact (D.out.bound.below B9.out).mono (fun k hk => Or.inl hk)⟩
     have XL : Aside0 (w1.heap.size < wr.heap.size) := ⟨Nat.lt_of_lt_of_le N3.out HB.out.1.size⟩
     have SP : Aside0 (Sto wr w1.heap.size d okp i l n) := ⟨⟨⟨G.out.below B9.out, by rw [hokp]; rintro (⟨h, _⟩ | h); exact N0.out h; have := XL.out; omega, by rw [hokp]; exact fun k hk => Or.inr hk, (HB.out.1.block _ N3.out).trans S3.out, by rw [hokp]; rintro (⟨_, h⟩ | h); omega; have := XL.out; omega⟩, DP.out, GD.out, SM.out⟩⟩
     have RK : Aside0 (∀ w', Kp okp wr w' → Kd.C Kd.string w' A7 (goneX l).length (goneX l)) := ⟨fun w' hk => (Kd.R_reads' (row_keep (Kd.R_mono (Kd.R_bound HR7.out) (ok' := fun k => w3.heap.size ≤ k ∧ k < wr.heap.size) (fun k hk => ⟨hk.1, hk.2.2.1⟩)) (by rw [hokp]; rintro k ⟨h1, h2⟩ _ (⟨_, h3⟩ | h3); have := N3.out; omega; omega) w' hk)).2.2⟩
     have OKM : Aside0 (∀ k, okp k → ok k ∧ k ≠ w1.heap.size) := ⟨by rw [hokp]; rintro k (⟨h3, h4⟩ | h3); exact ⟨h3, by omega⟩; exact ⟨N.out k (Nat.le_trans B9.out.size h3), by have := XL.out; omega⟩⟩
     clear hokp hgone hlc7 hC7 HR7
     go_wp2_with (fail)
     refine (remove_st SP.out A7 c7 (goneX l) RK.out (by have := HLG.out; have := HI.out; omega) (fun g hg => (GS.out.1 g hg).1) GS.out.2 (fun g hg => (GS.out.1 g hg).2)).mono ?_
     rintro e w9 ⟨rfl, hS, hK⟩
     have SF := Aside0.mk hS
     have KF := Aside0.mk hK
     clear hS hK
     go_wp2
     go_ret3
     have KW : Kp ok w1 w9 := ⟨KF.out.os.trans B9.out.os, KF.out.tape.trans B9.out.tape, KF.out.output.trans B9.out.output, Nat.le_trans B9.out.size KF.out.size, fun k hk hno => (KF.out.block k (Nat.lt_of_lt_of_le hk B9.out.size) (fun h => hno (OKM.out k h).1)).trans (B9.out.block k hk)⟩
     have E := SF.out.env
     exact ⟨_, rfl, Nat.le_refl _, ⟨⟨E.tab, fun h => N0.out h.1, fun k hk => OKM.out k (E.new k hk), E.blk, fun h => h.2 rfl⟩, SF.out.disk.mono (fun k hk => OKM.out k hk), SF.out.good, SF.out.sml⟩, KW⟩
end Go.Proofs.YtpgbkeaaklglkaaGreatDoor.Q
namespace Go.Proofs.YtpgbkeaaklglkaaGreatDoor.Q
open Go.Maps Go.WideShapes Go.WideMaps Go.RowKit Go.Proofs.YtpgbkeaaklglkaaGreatDoorW.PrintWords Go.Proofs.YtpgbkeaaklglkaaGreatDoorW.PrintLast Go.Proofs.YtpgbkeaaklglkaaGreatDoorW.PrintMore
set_option linter.unusedVariables false
set_option linter.unusedSimpArgs false
set_option maxHeartbeats 10000000
set_option maxRecDepth 100000
/-! the worked example -/
theorem gone_nil : goneX [] = [] ∧ manyX [] = 0 := by
 have h1 : newL [] = [] := if_neg (by decide)
 have h2 : badL [] (allX []) = [] := rfl
 exact ⟨by unfold goneX; rw [h1, h2]; rfl, by unfold manyX; rw [h2]; rfl⟩
/-! each text's id; how each text is cut -/
theorem ref_cut_go (w : Nat) (hw : 0 < w ∧ w ≤ 1000000) (s : ByteArray) (hs : s.size ≤ 1000000000) : ∀ (d p : Nat) (done : List ByteArray) (k : Nat), s.size - p ≤ d → p ≤ s.size + w → d < k → done.length + d ≤ 1000000000 →
  stowageref06_Cut.l0 k s w done (p : Int) = some (done ++ pcs w d (s.extract p s.size))
 | 0, p, done, k, hd, hp, hk, hl => by
  obtain ⟨k, rfl⟩ : ∃ m, k = m + 1 := ⟨k - 1, by omega⟩
  rw [stowageref06_Cut.l0, if_neg (by omega), pcs, List.append_nil]
 | d + 1, p, done, k, hd, hp, hk, hl => by
  obtain ⟨k, rfl⟩ : ∃ m, k = m + 1 := ⟨k - 1, by omega⟩
  have hz : (s.extract p s.size).size = s.size - p := by rw [ByteArray.size_extract]; omega
  by_cases h : p < s.size
  ·have ih := ref_cut_go w hw s hs d (p + w) (done ++ [s.extract p (min (p + w) s.size)]) k (by omega) (by omega) (by omega) (by rw [List.length_append]; simp only [List.length_cons, List.length_nil]; omega)
   have e1 : wrap64 ((p : Int) + w) = ((p + w : Nat) : Int) := by rw [IntWalk.wrap64_in _ (by omega)]; omega
   have e2 : (s.extract p s.size).extract 0 (min w (s.extract p s.size).size) = s.extract p (min (p + w) s.size) := by
    rw [ByteArray.extract_extract, hz]
    congr 1
    omega
   have e3 : (s.extract p s.size).extract (min w (s.extract p s.size).size) (s.extract p s.size).size = s.extract (p + w) s.size := by
    rw [ByteArray.extract_extract, hz]
    by_cases hm : w ≤ s.size - p
    ·congr 1
     ·omega
     ·omega
    ·refine ba_inj ?_
     rw [tl_ext, tl_ext, List.drop_of_length_le (by rw [tl_len]; omega), List.drop_of_length_le (by rw [tl_len]; omega)]
     simp
   rw [stowageref06_Cut.l0, if_pos (by omega), if_pos (by omega), e1, mn_nat, if_pos (by omega), if_pos (by omega), if_pos (by omega), Int.toNat_natCast, Int.toNat_natCast, ih, pcs, if_neg (by omega), e2, e3]
   simp
  ·rw [stowageref06_Cut.l0, if_neg (by omega), pcs, if_pos (by omega), List.append_nil]
theorem ref_cut (w : Nat) (hw : 0 < w ∧ w ≤ 1000000) (s : ByteArray) (hs : s.size ≤ 1000000000) (k : Nat) (hk : s.size < k) : stowageref06_Cut.f k s w = some (piecesS w s) := by
 have := ref_cut_go w hw s hs s.size 0 [] k (by omega) (by omega) hk (by simpa using hs)
 have e : s.extract 0 s.size = s := ba_inj (by rw [tl_ext, List.drop_zero, Nat.sub_zero]; exact List.take_of_length_le (by rw [tl_len]; exact Nat.le_refl _))
 rw [e] at this
 exact this
theorem oct_cut (s : ByteArray) (hs : s.size ≤ 1000000000) (k : Nat) (hk : s.size < k) : extent_Cut.f k s = some (piecesS 4096 s) := by
 unfold extent_Cut.f
 rw [show (4096 : Int) = ((4096 : Nat) : Int) from rfl, oct_pieces 4096 (by decide) s hs k hk]
 rfl
-- 18
end Go.Proofs.YtpgbkeaaklglkaaGreatDoor.Q