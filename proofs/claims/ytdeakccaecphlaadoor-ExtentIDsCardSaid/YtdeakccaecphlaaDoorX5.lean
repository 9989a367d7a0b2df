/- A disk that is opened. -/
import Derived.Test.YtdeakccaecphlaaDoorXr
import Derived.Outline
import Derived.Deep.DeepCutAuto
import Derived.Test.YtdeakccaecphlaaDoorX4
namespace Go.Proofs.YtdeakccaecphlaaDoor.Q
open Go.Maps Go.WideShapes Go.WideMaps Go.RowKit Go.Proofs.YtdeakccaecphlaaDoorW.PrintWords Go.Proofs.YtdeakccaecphlaaDoorW.PrintLast Go.Proofs.YtdeakccaecphlaaDoorW.PrintMore
set_option linter.unusedVariables false
set_option linter.unusedSimpArgs false
set_option maxHeartbeats 10000000
set_option maxRecDepth 100000
/-! a disk that is opened -/
noncomputable def badX (l : Fs) (id : ByteArray) : Bool := !rightS id (getF l (eId id))
noncomputable def badL (l : Fs) (ids : List ByteArray) : List ByteArray := (ids.filter (badX l)).map eId
def newL (l : Fs) : List ByteArray := if hasF l nEN = true then [nEN] else []
noncomputable def goneX (l : Fs) : List ByteArray := newL l ++ badL l (allX l)
noncomputable def manyX (l : Fs) : Nat := (badL l (allX l)).length
noncomputable def openX (l : Fs) : Fs := delsF l (goneX l)
theorem badL_snoc (l : Fs) (ids : List ByteArray) (id : ByteArray) : badL l (ids ++ [id]) = badL l ids ++ (if badX l id = true then [eId id] else []) := by
 unfold badL
 rw [List.filter_append, List.map_append]
 congr 1
 rw [List.filter_cons]
 split <;> rfl
theorem badL_len (l : Fs) (ids : List ByteArray) : (badL l ids).length ≤ ids.length := by
 unfold badL
 rw [List.length_map]
 exact List.length_filter_le _ _
theorem newL_len (l : Fs) : (newL l).length ≤ 1 := by unfold newL; split <;> simp
theorem mem_allX {l : Fs} {id : ByteArray} : id ∈ allX l ↔ mayS id = true ∧ hasF l (eId id) = true := by
 unfold allX
 rw [List.mem_map]
 constructor
 ·rintro ⟨n, hn, rfl⟩
  obtain ⟨h1, h2⟩ := List.mem_filter.1 hn
  obtain ⟨id, h3, rfl⟩ := isX_iff.1 h2
  obtain ⟨p, hp, e⟩ := List.mem_map.1 h1
  rw [show idX (nE ++ id) = id from idX_e id]
  exact ⟨h3, hasF_iff.2 ⟨p, hp, e⟩⟩
 ·rintro ⟨h1, h2⟩
  obtain ⟨p, hp, e⟩ := hasF_iff.1 h2
  exact ⟨eId id, List.mem_filter.2 ⟨List.mem_map.2 ⟨p, hp, e⟩, isX_e h1⟩, idX_e id⟩
theorem allX_nodup {l : Fs} (h : Rises l) : (allX l).Nodup := by
 unfold allX
 have h0 : ((l.map (·.1)).filter isX).Nodup := by
  refine List.Pairwise.filter _ ?_
  rw [List.pairwise_map]
  exact h.imp (fun h => ltN_ne h)
 refine (List.pairwise_map.2 (h0.imp_of_mem ?_))
 intro a b ha hb hab e
 obtain ⟨i, _, rfl⟩ := isX_iff.1 (List.mem_filter.1 ha).2
 obtain ⟨j, _, rfl⟩ := isX_iff.1 (List.mem_filter.1 hb).2
 rw [show idX (nE ++ i) = i from idX_e i, show idX (nE ++ j) = j from idX_e j] at e
 exact hab (by rw [e])
theorem mem_badL {l : Fs} {ids : List ByteArray} {g : ByteArray} : g ∈ badL l ids ↔ ∃ id, id ∈ ids ∧ badX l id = true ∧ g = eId id := by
 unfold badL
 rw [List.mem_map]
 constructor
 ·rintro ⟨id, h, rfl⟩
  exact ⟨id, (List.mem_filter.1 h).1, (List.mem_filter.1 h).2, rfl⟩
 ·rintro ⟨id, h1, h2, rfl⟩
  exact ⟨id, List.mem_filter.2 ⟨h1, h2⟩, rfl⟩
theorem gone_spec {l : Fs} (h : Rises l) : (∀ g ∈ goneX l, nameS g = true ∧ hasF l g = true) ∧ (goneX l).Nodup := by
 constructor
 ·intro g hg
  rcases List.mem_append.1 hg with hg | hg
  ·unfold newL at hg
   split at hg
   ·rename_i hh
    rw [List.mem_singleton] at hg
    subst hg
    exact ⟨nEN_name, hh⟩
   ·cases hg
  ·obtain ⟨id, h1, _, rfl⟩ := mem_badL.1 hg
   obtain ⟨h2, h3⟩ := mem_allX.1 h1
   exact ⟨may_name h2, h3⟩
 ·unfold goneX
  rw [List.nodup_append]
  refine ⟨?_, ?_, ?_⟩
  ·unfold newL; split <;> simp
  ·unfold badL
   exact (List.pairwise_map.2 ((List.Pairwise.filter _ (allX_nodup h)).imp (fun hab e => hab (eId_inj e))))
  ·intro a ha b hb e
   unfold newL at ha
   split at ha
   ·rw [List.mem_singleton] at ha
    subst ha
    obtain ⟨id, h1, _, rfl⟩ := mem_badL.1 hb
    exact e_new (mem_allX.1 h1).1 e.symm
   ·cases ha
theorem Open_calls {w : World} {d : Nat} {ok : Nat → Prop} {i : Nat} {l : Fs} {n : Int} (hG : InG w) (h0 : ¬ ok 0) (hnew : ∀ k, w.heap.size ≤ k → ok k) (hD : IsD w d ok (idl l n)) (hg : Good i (idl l n)) (hs : Sml l) (hi : i + l.length ≤ 800) :
  Calls Tryd.prog 11 #[.pointer (some ⟨d, 0, none⟩)] w fun e w' => ∃ x : Nat, e = .returned (.tuple #[.pointer (some ⟨x, 0, none⟩), .int .i64 (manyX l : Nat), .int .i64 0]) ∧ w.heap.size ≤ x ∧ Sto w' x d (fun k => ok k ∧ k ≠ x) (i + (goneX l).length) (openX l) (n + (goneX l).length) ∧ Kp ok w w' := by
 have hu := Tryd.underlying46
 have G := Aside0.mk hG
 have N0 := Aside0.mk h0
 have N := Aside0.mk hnew
 have D := Aside0.mk hD
 have GD := Aside0.mk hg
 have SM := Aside0.mk hs
 have HI := Aside0.mk hi
 have HLN := Aside0.mk (allX_len l)
 have GS := Aside0.mk (gone_spec hg.ris)
 clear hG h0 hnew hD hg hs hi
 go_enter Tryd.func11, Tryd.ntmps11
 go_wp2_with (fail)
 refine (down_calls D.out).mono ?_
 rintro e w1 ⟨rfl, rfl⟩
 have b1 : Below w1.heap.size w1 (w1.alloc (.cells #[.pointer (some ⟨d, 0, none⟩)] 46 (0, 0))) := below_alloc (Below.refl _ _) _
 have S1 : Aside0 (IsSt (w1.alloc (.cells #[.pointer (some ⟨d, 0, none⟩)] 46 (0, 0))) w1.heap.size d) := ⟨heap_alloc_new w1 _⟩
 have NW : Aside0 (w1.heap.size < (w1.alloc (.cells #[.pointer (some ⟨d, 0, none⟩)] 46 (0, 0))).heap.size) := ⟨by simp⟩
 have D1 := Aside0.mk (D.out.below b1)
 have B1 := Aside0.mk b1
 go_wp2_with (fail)
 generalize w1.alloc (.cells #[.pointer (some ⟨d, 0, none⟩)] 46 (0, 0)) = w2 at S1 NW D1 B1 ⊢
 clear b1
 refine (read_calls D1.out nEN (by decide)).mono ?_
 rintro e w3 ⟨rfl, hb⟩
 have B3 := Aside0.mk (below_step B1.out hb)
 have S3 : Aside0 (IsSt w3 w1.heap.size d) := ⟨(hb.block _ NW.out).trans S1.out⟩
 have D3 := Aside0.mk (D1.out.below hb)
 have N3 : Aside0 (w1.heap.size < w3.heap.size) := ⟨Nat.lt_of_lt_of_le NW.out hb.size⟩
 clear hb S1 D1 B1 NW
 have HQ : Aside0 ((readE (idl l n) nEN == 0) = hasF l nEN) := ⟨by rw [(read_idl l n nEN_name).1]; cases hasF l nEN <;> rfl⟩
 generalize readE (idl l n) nEN = q0 at HQ ⊢
 generalize readS (idl l n) nEN = q1
 go_upto_if 30 with (fail)
 go_cut [7] (fun u7 wx => Aside0 (Kd.string.R 9 wx w3.heap.size (fun k => w3.heap.size ≤ k) u7 (newL l)) ∧ Aside0 (Below w3.heap.size w3 wx))
 case first =>
  cases hh : hasF l nEN with
  | false =>
   have HE : Aside0 (newL l = []) := ⟨if_neg (by rw [hh]; simp)⟩
   have hq := HQ.out
   rw [hh] at hq
   clear hh
   go_wp2_with (fail)
   go_meet
   case rel => exact ⟨⟨by rw [HE.out]; exact Kd.R_nil _ _ _ _ _⟩, ⟨Below.refl _ _⟩⟩
  | true =>
   have HE : Aside0 (newL l = [] ++ [nEN]) := ⟨if_pos hh⟩
   have hq := HQ.out
   rw [hh] at hq
   clear hh
   go_wp2_with (first | ((with_reducible refine gate_builtin (b := .append) (xs := #[.tmp 31, .tmp 32]) rfl ?_); at_builtin; refine Kd.R_append Kd.string (w0 := w3) w3.heap.size rfl (.tmp 31) (.tmp 32) 25 9 (.string ⟨#[]⟩) 16 rfl Tryd.underlying25 info9 rfl (by decide) (by omega) (.slice none 0 0) [] nEN [.string nEN] (fun k => w3.heap.size ≤ k) (fun _ => False) rfl rfl rfl (fun _ hk => hk.elim) (fun k hk => hk) (Kd.R_nil _ _ _ _ _) (Below.refl _ _) (Nat.le_refl _) (by decide) ?_; intro v5 w5 ho hb hg hat; have HO5 := Aside0.mk ho; have HB5 := Aside0.mk hb; clear ho hb hg hat))
   go_meet
   case rel => exact ⟨⟨by rw [HE.out]; exact HO5.out⟩, HB5⟩
 case rest =>
  obtain ⟨RN, BN⟩ := hcut
  have B4 := Aside0.mk (B3.out.trans (BN.out.mono B3.out.size))
  have S4 : Aside0 (IsSt wc w1.heap.size d) := ⟨(BN.out.block _ N3.out).trans S3.out⟩
  have D4 := Aside0.mk (D3.out.below BN.out)
  have N4 : Aside0 (w3.heap.size ≤ wc.heap.size) := ⟨BN.out.size⟩
  clear HQ
  go_wp2_with (fail)
  refine (All_calls S4.out D4.out rfl GD.out.ris GD.out.named (by have := HI.out; show l.length ≤ _; omega)).mono ?_
  rintro e w5 ⟨v, rfl, hR, hb⟩
  rw [show (idl l n).now = l from rfl] at hR
  obtain ⟨A, c, rfl, hlc, hC⟩ := Kd.R_reads hR
  obtain ⟨m, hm⟩ : ∃ m, m = (allX l).length := ⟨_, rfl⟩
  have HM := Aside0.mk hm
  have RA := Aside0.mk (Kd.R_mono (Kd.R_bound hR) (ok' := fun k => wc.heap.size ≤ k ∧ k < w5.heap.size) (fun k hk => ⟨hk.1, hk.2.2.1⟩))
  have HON : Aside0 (∀ k, u7.ownBlock = some k → k < wc.heap.size ∨ w5.heap.size ≤ k) := ⟨fun k hk => Or.inl ((Kd.R_bound RN.out).1 k hk).2.2.1⟩
  rw [← hm] at RA ⊢
  have B5 := Aside0.mk (below_step B4.out hb)
  have S5 : Aside0 (IsSt w5 w1.heap.size d) := ⟨(hb.block _ (lt_of_some S4.out)).trans S4.out⟩
  have D5 := Aside0.mk (D4.out.below hb)
  have R5 := Aside0.mk (Kd.R_below RN.out hb)
  have B35 : Aside0 (Below w3.heap.size w3 w5) := ⟨BN.out.trans (hb.mono N4.out)⟩
  clear hR hb hC hlc hm S4 D4 RN BN
  go_wp2_with (fail)
  go_loopg [6, 7, 37] (m + 1) (fun kq v6 v7 v37 w' => ∃ (j : Nat) (K : Int), v37 = .int .i64 (j : Int) ∧ v6 = .int .i64 K ∧ Aside0 (j + kq = m + 1 ∧ j ≤ m ∧ K = ((badL l ((allX l).take j)).length : Nat)) ∧ Aside0 (Kd.string.R 9 w' w3.heap.size (fun k => w3.heap.size ≤ k) v7 (newL l ++ badL l ((allX l).take j))) ∧ Aside0 (Below w3.heap.size w3 w' ∧ w5.heap.size ≤ w'.heap.size) ∧ Aside0 (Kd.string.R 9 w' wc.heap.size (fun k => wc.heap.size ≤ k ∧ k < w5.heap.size) (.slice A m c) (allX l)) ∧ Aside0 (∀ k, v7.ownBlock = some k → k < wc.heap.size ∨ w5.heap.size ≤ k))
  case atStart => exact ⟨0, 0, rfl, rfl, ⟨by omega, by omega, rfl⟩, ⟨by rw [List.take_zero, show badL l [] = [] from rfl, List.append_nil]; exact R5.out⟩, ⟨B35.out, Nat.le_refl _⟩, RA, HON⟩
  case round =>
   clear R5 RA HON
   obtain ⟨j, K, rfl, rfl, HJ, HR7, HB, HA, HO⟩ := hrel
   cases gk with
   | zero => have := HJ.out; omega
   | succ k1 =>
    have HBL : Aside0 ((badL l ((allX l).take j)).length ≤ 1000) := ⟨by have h1 := badL_len l ((allX l).take j); rw [List.length_take] at h1; have := HLN.out; have := HI.out; omega⟩
    by_cases hj : j < m
    ·have hlt : ((j : Int) < (m : Int)) = True := eq_true (by omega)
     have hj2 : j < (allX l).length := by have := HM.out; omega
     obtain ⟨id, hid⟩ : ∃ id, (allX l)[j]? = some id := ⟨_, List.getElem?_eq_getElem hj2⟩
     have hmem : id ∈ allX l := List.mem_of_getElem? hid
     have hrd : rdOf ByteArray.empty (allX l) (j : Int) = id := by
      unfold rdOf
      rw [Int.toNat_natCast, List.getD_eq_getElem?_getD, hid]
      rfl
     have HTK : Aside0 ((allX l).take (j + 1) = (allX l).take j ++ [id]) := ⟨by
      obtain ⟨hl, hx⟩ := List.getElem?_eq_some_iff.1 hid
      rw [List.take_succ_eq_append_getElem hl, hx]⟩
     have HMY := Aside0.mk (mem_allX.1 hmem)
     have HZ : Aside0 (id.size = 64) := ⟨(mayS_iff.1 HMY.out.1).2⟩
     obtain ⟨ad, e, h0⟩ := (Kd.reads_of_C (enc := Value.string) (d := ByteArray.empty) ((Kd.R_reads' HA.out).2.2)).at_ (j : Int) (by omega) (by omega)
     rw [Int.toNat_natCast, hrd] at h0
     subst e
     have hsz : ((⟨#[101, 46]⟩ : ByteArray).size + id.size > 9223372036854775807) = False := eq_false (by have := HZ.out; have e : (⟨#[101, 46]⟩ : ByteArray).size = 2 := rfl; omega)
     have hsz2 : (2 + id.size > 9223372036854775807) = False := eq_false (by have := HZ.out; omega)
     have hsz3 : (9223372036854775807 < 2 + id.size) = False := eq_false (by have := HZ.out; omega)
     clear hid hmem hj2 hrd
     go_wp2_with (fail)
     refine (read_calls (D3.out.below HB.out.1) (nE ++ id) (by rw [eId_size]; have := HZ.out; omega)).mono ?_
     rintro e w6 ⟨rfl, hb⟩
     have B6 : Aside0 (Below w3.heap.size w3 w6 ∧ w5.heap.size ≤ w6.heap.size) := ⟨below_step HB.out.1 hb, Nat.le_trans HB.out.2 hb.size⟩
     have A6 := Aside0.mk (Kd.R_below HA.out hb)
     have R6 := Aside0.mk (Kd.R_below HR7.out hb)
     clear hb h0 HR7 HB HA
     rw [(read_idl l n (may_name HMY.out.1)).1, (read_idl l n (may_name HMY.out.1)).2, if_pos HMY.out.2, if_pos HMY.out.2]
     go_wp2_with (fail)
     refine (read_calls' id (getF l (nE ++ id)) (getF_small SM.out _) w6 (G.out.below (B3.out.trans (B6.out.1.mono B3.out.size)))).mono ?_
     rintro e w7 ⟨rfl, hb⟩
     have B7 : Aside0 (Below w3.heap.size w3 w7 ∧ w5.heap.size ≤ w7.heap.size) := ⟨below_step B6.out.1 hb, Nat.le_trans B6.out.2 hb.size⟩
     have A7 := Aside0.mk (Kd.R_below A6.out hb)
     have R7 := Aside0.mk (Kd.R_below R6.out hb)
     clear hb R6 A6
     cases hr : rightS id (getF l (nE ++ id)) with
     | true =>
      have HS2 : Aside0 (badL l ((allX l).take (j + 1)) = badL l ((allX l).take j)) := ⟨by rw [HTK.out, badL_snoc, if_neg (by unfold badX; rw [show getF l (eId id) = getF l (nE ++ id) from rfl, hr]; simp), List.append_nil]⟩
      clear hr
      go_wp2_with (fail)
      go_roundg k1
      case measure => have := HJ.out; omega
      case rel => exact ⟨j + 1, K, by rw [IntWalk.wrap64_in _ (by have := HI.out; have := HLN.out; have := HM.out; omega)]; rfl, rfl, ⟨by have := HJ.out; omega, by omega, by rw [HS2.out]; exact HJ.out.2.2⟩, ⟨by rw [HS2.out]; exact R7.out⟩, B7, A7, HO⟩
     | false =>
      have HS2 : Aside0 (badL l ((allX l).take (j + 1)) = badL l ((allX l).take j) ++ [eId id]) := ⟨by rw [HTK.out, badL_snoc, if_pos (by unfold badX; rw [show getF l (eId id) = getF l (nE ++ id) from rfl, hr]; rfl)]⟩
      have HNL : Aside0 ((newL l ++ badL l ((allX l).take j)).length ≤ 2000) := ⟨by rw [List.length_append]; have := newL_len l; have := HBL.out; omega⟩
      have B37 : Aside0 (Below w3.heap.size w3 w7) := ⟨B7.out.1⟩
      clear hr
      go_wp2_with (first | ((with_reducible refine gate_builtin (b := .append) (xs := #[.tmp 56, .tmp 59]) rfl ?_); at_builtin; refine Kd.R_append Kd.string (w0 := w3) w3.heap.size rfl (.tmp 56) (.tmp 59) 25 9 (.string ⟨#[]⟩) 16 rfl Tryd.underlying25 info9 rfl (by decide) (by omega) u7 (newL l ++ badL l ((allX l).take j)) (nE ++ id) [.string (nE ++ id)] (fun k => w3.heap.size ≤ k) (fun _ => False) rfl rfl rfl (fun _ hk => hk.elim) (fun k hk => Nat.le_trans B37.out.size hk) R7.out B37.out B37.out.size ?aL ?_; (case aL => have := HNL.out; omega); intro v8 w8 ho hb hg hat; have HO8 := Aside0.mk ho; have HB8 := Aside0.mk hb; have HG8 := Aside0.mk hg; have HT8 := Aside0.mk hat; clear ho hb hg hat))
      go_roundg k1
      case measure => have := HJ.out; omega
      case rel =>
       refine ⟨j + 1, K + 1, by rw [IntWalk.wrap64_in _ (by have := HI.out; have := HLN.out; have := HM.out; omega)]; rfl, by rw [IntWalk.wrap64_in _ (by have := HJ.out; have := HBL.out; omega)], ⟨by have := HJ.out; omega, by omega, by rw [HS2.out, List.length_append]; have := HJ.out.2.2; simp only [List.length_cons, List.length_nil]; omega⟩, ⟨by rw [HS2.out, ← List.append_assoc]; exact HO8.out⟩, ⟨HB8.out, Nat.le_trans B7.out.2 HG8.out.size⟩, ⟨Kd.R_step A7.out (fun k hk hlt => HG8.out.block k hlt (fun e => by have := HO.out k e.symm; omega))⟩, ⟨?_⟩⟩
       intro k hk
       rcases HT8.out with e | ⟨b, e, hb⟩
       ·exact HO.out k (by rw [← e]; exact hk)
       ·rw [e] at hk
        obtain rfl := Option.some.inj hk
        exact Or.inr (Nat.le_trans B7.out.2 hb)
    ·obtain rfl : j = m := by have := HJ.out; omega
     have hlt : ((j : Int) < (j : Int)) = False := eq_false (by omega)
     obtain ⟨A7, c7, rfl, hlc7, hC7⟩ := Kd.R_reads HR7.out
     have hgone : newL l ++ badL l ((allX l).take j) = goneX l := by rw [HM.out, List.take_length]; rfl
     have hK : K = (manyX l : Nat) := by rw [HJ.out.2.2, HM.out, List.take_length]; rfl
     rw [hgone] at HR7
     rw [hgone]
     subst hK
     have HLG : Aside0 ((goneX l).length ≤ l.length + 1) := ⟨by unfold goneX; rw [List.length_append]; have h1 := newL_len l; have h2 := badL_len l (allX l); have := HLN.out; omega⟩
     have B9 : Aside0 (Below w1.heap.size w1 wr) := ⟨B3.out.trans (HB.out.1.mono B3.out.size)⟩
     obtain ⟨okp, hokp⟩ : ∃ okp : Nat → Prop, okp = fun k => (ok k ∧ k < w1.heap.size) ∨ wr.heap.size ≤ k := ⟨_, rfl⟩
     have DP : Aside0 (IsD wr d okp (idl l n)) := ⟨by rw [hokp]; exact (D.out.bound.below B9.out).mono (fun k hk => Or.inl hk)⟩
     have XL : Aside0 (w1.heap.size < wr.heap.size) := ⟨Nat.lt_of_lt_of_le N3.out HB.out.1.size⟩
     have SP : Aside0 (Sto wr w1.heap.size d okp i l n) := ⟨⟨⟨G.out.below B9.out, by rw [hokp]; rintro (⟨h, _⟩ | h); exact N0.out h; have := XL.out; omega, by rw [hokp]; exact fun k hk => Or.inr hk, (HB.out.1.block _ N3.out).trans S3.out, by rw [hokp]; rintro (⟨_, h⟩ | h); omega; have := XL.out; omega⟩, DP.out, GD.out, SM.out⟩⟩
     have RK : Aside0 (∀ w', Kp okp wr w' → Kd.C Kd.string w' A7 (goneX l).length (goneX l)) := ⟨fun w' hk => (Kd.R_reads' (row_keep (Kd.R_mono (Kd.R_bound HR7.out) (ok' := fun k => w3.heap.size ≤ k ∧ k < wr.heap.size) (fun k hk => ⟨hk.1, hk.2.2.1⟩)) (by rw [hokp]; rintro k ⟨h1, h2⟩ _ (⟨_, h3⟩ | h3); have := N3.out; omega; omega) w' hk)).2.2⟩
     have OKM : Aside0 (∀ k, okp k → ok k ∧ k ≠ w1.heap.size) := ⟨by rw [hokp]; rintro k (⟨h3, h4⟩ | h3); exact ⟨h3, by omega⟩; exact ⟨N.out k (Nat.le_trans B9.out.size h3), by have := XL.out; omega⟩⟩
     clear hokp hgone hlc7 hC7 HR7
     go_wp2_with (fail)
     refine (remove_st SP.out A7 c7 (goneX l) RK.out (by have := HLG.out; have := HI.out; omega) (fun g hg => (GS.out.1 g hg).1) GS.out.2 (fun g hg => (GS.out.1 g hg).2)).mono ?_
     rintro e w9 ⟨rfl, hS, hK⟩
     have SF := Aside0.mk hS
     have KF := Aside0.mk hK
     clear hS hK
     go_wp2
     go_ret3
     have KW : Kp ok w1 w9 := ⟨KF.out.os.trans B9.out.os, KF.out.tape.trans B9.out.tape, KF.out.output.trans B9.out.output, Nat.le_trans B9.out.size KF.out.size, fun k hk hno => (KF.out.block k (Nat.lt_of_lt_of_le hk B9.out.size) (fun h => hno (OKM.out k h).1)).trans (B9.out.block k hk)⟩
     have E := SF.out.env
     exact ⟨_, rfl, Nat.le_refl _, ⟨⟨E.tab, fun h => N0.out h.1, fun k hk => OKM.out k (E.new k hk), E.blk, fun h => h.2 rfl⟩, SF.out.disk.mono (fun k hk => OKM.out k hk), SF.out.good, SF.out.sml⟩, KW⟩
end Go.Proofs.YtdeakccaecphlaaDoor.Q
namespace Go.Proofs.YtdeakccaecphlaaDoor.Q
open Go.Maps Go.WideShapes Go.WideMaps Go.RowKit Go.Proofs.YtdeakccaecphlaaDoorW.PrintWords Go.Proofs.YtdeakccaecphlaaDoorW.PrintLast Go.Proofs.YtdeakccaecphlaaDoorW.PrintMore
set_option linter.unusedVariables false
set_option linter.unusedSimpArgs false
set_option maxHeartbeats 10000000
set_option maxRecDepth 100000
/-! the worked example -/
abbrev sAB : ByteArray := ⟨#[97, 98]⟩
theorem fail_idl (l : Fs) (n keep torn : Int) : failK (idl l n) keep torn = { idl l n with down := true } := by
 have h : failF (idl l n) keep torn = l := by
  unfold failF
  simp [idl]
 unfold failK
 rw [if_neg (by simp [idl]), h]
 rfl
theorem putX_ab : putX [] sAB = [(eId (idS sAB), laidS sAB)] := by
 unfold putX
 rw [if_neg]
 ·rfl
 ·rintro (h | h | h)
  ·exact absurd h (by decide)
  ·exact absurd h (by decide)
  ·unfold hasX getX at h
   rw [if_pos (idS_may sAB), if_neg (by decide)] at h
   exact absurd h (by decide)
theorem hasF_one (a F b : ByteArray) : hasF [(a, F)] b = sameN a b := by unfold hasF; simp
theorem getF_one (a F : ByteArray) : getF [(a, F)] a = F := by unfold getF; rw [List.find?_cons, sameN_iff.2 rfl]; rfl
theorem allX_one {id : ByteArray} (h : mayS id = true) (F : ByteArray) : allX [(eId id, F)] = [id] := by
 unfold allX
 rw [List.map_cons, List.map_nil, List.filter_cons, if_pos (isX_e h)]
 show [idX (nE ++ id)] = [id]
 rw [show idX (nE ++ id) = id from idX_e id]
theorem new_one {id : ByteArray} (h : mayS id = true) (F : ByteArray) : newL [(eId id, F)] = [] := by
 unfold newL
 rw [hasF_one, if_neg]
 rw [sameN_iff]
 exact e_new h
theorem gone_ab : goneX [(eId (idS sAB), laidS sAB)] = [] ∧ manyX [(eId (idS sAB), laidS sAB)] = 0 := by
 have hb : badL [(eId (idS sAB), laidS sAB)] (allX [(eId (idS sAB), laidS sAB)]) = [] := by
  rw [allX_one (idS_may _)]
  unfold badL badX
  rw [List.filter_cons, getF_one, (right_laid sAB (by decide) (by decide)).1]
  rfl
 constructor
 ·unfold goneX; rw [hb, new_one (idS_may _)]; rfl
 ·unfold manyX; rw [hb]; rfl
theorem get_ab : getX [(eId (idS sAB), laidS sAB)] (idS sAB) = (sAB, 0) := by
 unfold getX
 rw [if_pos (idS_may _), hasF_one, sameN_iff.2 rfl, if_pos rfl, getF_one, (right_laid sAB (by decide) (by decide)).1, if_pos rfl, (right_laid sAB (by decide) (by decide)).2]
theorem gone_nil : goneX [] = [] ∧ manyX [] = 0 := by
 have h1 : newL [] = [] := if_neg (by decide)
 have h2 : badL [] (allX []) = [] := rfl
 exact ⟨by unfold goneX; rw [h1, h2]; rfl, by unfold manyX; rw [h2]; rfl⟩
theorem awake_calls (w : World) (hG : InG w) : Calls Tryd.prog 4 #[] w fun e w' => e = .returned (.bool true) ∧ Below w.heap.size w w' := by
 have G := Aside0.mk hG
 clear hG
 go_enter Tryd.func4, Tryd.ntmps4
 go_wp2_with (fail)
 refine (new_calls w).mono ?_
 rintro e w1 ⟨d, rfl, hI, hb⟩
 rw [newK_idl] at hI
 have B1 := Aside0.mk hb
 have I1 := Aside0.mk hI
 clear hb hI
 go_wp2_with (fail)
 refine (Open_calls (i := 0) (G.out.below B1.out) (by have := G.out.pos; omega) (fun k hk => Nat.le_trans B1.out.size hk) I1.out idl_new (fun p hp => by cases hp) (by decide)).mono ?_
 rintro e w2 ⟨x, rfl, hx, hS, hK⟩
 rw [show openX [] = [] by unfold openX; rw [gone_nil.1]; rfl, gone_nil.1] at hS
 rw [gone_nil.2]
 have S2 := Aside0.mk hS
 have B2 : Aside0 (Below w.heap.size w w2) := ⟨B1.out.trans (hK.below B1.out.size)⟩
 clear hS hK I1 B1
 go_wp2_with (fail)
 refine (Put_calls S2.out sAB (by decide) (by decide)).mono ?_
 rintro e w3 ⟨rfl, ⟨n', hS⟩, hK⟩
 rw [putX_ab] at hS
 rw [show putI sAB = idS sAB from if_neg (by decide), show putE sAB = 0 from by decide]
 have S3 := Aside0.mk hS
 have B3 : Aside0 (Below w.heap.size w w3) := ⟨B2.out.trans ((hK.mono (fun k _ h => h.1)).below B2.out.size)⟩
 have HID := Aside0.mk (⟨idS_size sAB, gone_ab, get_ab⟩ : (idS sAB).size = 64 ∧ _ ∧ _)
 clear hS hK S2 B2
 generalize hid : idS sAB = id at HID S3 ⊢
 have IDE := Aside0.mk hid
 clear hid
 generalize laidS sAB = F at HID S3
 have LE : Aside0 (([(eId id, F)] : Fs).length = 1) := ⟨rfl⟩
 have OE : Aside0 (openX [(eId id, F)] = [(eId id, F)]) := ⟨by unfold openX; rw [HID.out.2.1.1]; rfl⟩
 generalize [(eId id, F)] = l at HID S3 LE OE
 go_wp2_with (fail)
 refine (fail_calls S3.out.disk S3.out.env.new trivial 0 0).mono ?_
 rintro e w4 ⟨rfl, hI, hK⟩
 rw [fail_idl] at hI
 have E4 := Aside0.mk (S3.out.env.keep hK)
 have I4 := Aside0.mk hI
 have B4 : Aside0 (Below w.heap.size w w4) := ⟨B3.out.trans ((hK.mono (fun k _ h => h.1)).below B3.out.size)⟩
 clear hI hK B3
 go_wp2_with (fail)
 refine (up_calls I4.out).mono ?_
 rintro e w5 ⟨rfl, hI, hK⟩
 have E5 := Aside0.mk (E4.out.keep hK)
 have I5 : Aside0 (IsD w5 d (fun k => w.heap.size ≤ k ∧ k ≠ x) (idl l n')) := ⟨hI⟩
 have B5 : Aside0 (Below w.heap.size w w5) := ⟨B4.out.trans ((hK.mono (fun k _ h => h.1)).below B4.out.size)⟩
 clear hI hK B4 E4 I4
 go_wp2_with (fail)
 refine (Open_calls (i := 2) E5.out.tab E5.out.no0 E5.out.new I5.out S3.out.good S3.out.sml (by have := LE.out; omega)).mono ?_
 rintro e w6 ⟨y, rfl, hy, hS, hK⟩
 rw [OE.out] at hS
 rw [HID.out.2.1.2]
 have S6 := Aside0.mk hS
 have B6 : Aside0 (Below w.heap.size w w6) := ⟨B5.out.trans ((hK.mono (fun k _ h => h.1)).below B5.out.size)⟩
 clear hS hK B5 E5 I5
 go_wp2_with (fail)
 refine (Get_calls S6.out id (by have := HID.out.1; omega)).mono ?_
 rintro e w7 ⟨rfl, hb⟩
 rw [HID.out.2.2]
 have B7 : Aside0 (Below w.heap.size w w7) := ⟨B6.out.trans (hb.mono B6.out.size)⟩
 clear hb S6 B6
 go_wp2_with (fail)
 refine (ID_calls sAB (by decide) w7 (G.out.below B7.out)).mono ?_
 rintro e w8 ⟨rfl, hb⟩
 rw [IDE.out]
 have q1 : (id.toList == id.toList) = true := beq_self_eq_true _
 have B8 : Aside0 (Below w.heap.size w w8) := ⟨B7.out.trans (hb.mono B7.out.size)⟩
 clear hb B7
 go_wp2
 go_ret
 exact ⟨rfl, B8.out⟩
/-! each text's id; how each text is cut -/
theorem ref_cut_go (w : Nat) (hw : 0 < w ∧ w ≤ 1000000) (s : ByteArray) (hs : s.size ≤ 1000000000) : ∀ (d p : Nat) (done : List ByteArray) (k : Nat), s.size - p ≤ d → p ≤ s.size + w → d < k → done.length + d ≤ 1000000000 →
  stowageref06_Cut.l0 k s w done (p : Int) = some (done ++ pcs w d (s.extract p s.size))
 | 0, p, done, k, hd, hp, hk, hl => by
  obtain ⟨k, rfl⟩ : ∃ m, k = m + 1 := ⟨k - 1, by omega⟩
  rw [stowageref06_Cut.l0, if_neg (by omega), pcs, List.append_nil]
 | d + 1, p, done, k, hd, hp, hk, hl => by
  obtain ⟨k, rfl⟩ : ∃ m, k = m + 1 := ⟨k - 1, by omega⟩
  have hz : (s.extract p s.size).size = s.size - p := by rw [ByteArray.size_extract]; omega
  by_cases h : p < s.size
  ·have ih := ref_cut_go w hw s hs d (p + w) (done ++ [s.extract p (min (p + w) s.size)]) k (by omega) (by omega) (by omega) (by rw [List.length_append]; simp only [List.length_cons, List.length_nil]; omega)
   have e1 : wrap64 ((p : Int) + w) = ((p + w : Nat) : Int) := by rw [IntWalk.wrap64_in _ (by omega)]; omega
   have e2 : (s.extract p s.size).extract 0 (min w (s.extract p s.size).size) = s.extract p (min (p + w) s.size) := by
    rw [ByteArray.extract_extract, hz]
    congr 1
    omega
   have e3 : (s.extract p s.size).extract (min w (s.extract p s.size).size) (s.extract p s.size).size = s.extract (p + w) s.size := by
    rw [ByteArray.extract_extract, hz]
    by_cases hm : w ≤ s.size - p
    ·congr 1
     ·omega
     ·omega
    ·refine ba_inj ?_
     rw [tl_ext, tl_ext, List.drop_of_length_le (by rw [tl_len]; omega), List.drop_of_length_le (by rw [tl_len]; omega)]
     simp
   rw [stowageref06_Cut.l0, if_pos (by omega), if_pos (by omega), e1, mn_nat, if_pos (by omega), if_pos (by omega), if_pos (by omega), Int.toNat_natCast, Int.toNat_natCast, ih, pcs, if_neg (by omega), e2, e3]
   simp
  ·rw [stowageref06_Cut.l0, if_neg (by omega), pcs, if_pos (by omega), List.append_nil]
theorem ref_cut (w : Nat) (hw : 0 < w ∧ w ≤ 1000000) (s : ByteArray) (hs : s.size ≤ 1000000000) (k : Nat) (hk : s.size < k) : stowageref06_Cut.f k s w = some (piecesS w s) := by
 have := ref_cut_go w hw s hs s.size 0 [] k (by omega) (by omega) hk (by simpa using hs)
 have e : s.extract 0 s.size = s := ba_inj (by rw [tl_ext, List.drop_zero, Nat.sub_zero]; exact List.take_of_length_le (by rw [tl_len]; exact Nat.le_refl _))
 rw [e] at this
 exact this
theorem oct_cut (s : ByteArray) (hs : s.size ≤ 1000000000) (k : Nat) (hk : s.size < k) : extent_Cut.f k s = some (piecesS 4096 s) := by
 unfold extent_Cut.f
 rw [show (4096 : Int) = ((4096 : Nat) : Int) from rfl, oct_pieces 4096 (by decide) s hs k hk]
 rfl
theorem same_l0 (a : List ByteArray) (hn : a.length ≤ 1152921504606846976) : ∀ (d i k : Nat), d + i = a.length → d < k → stowagelaw01_Same.l0 k a a i = some true := by
 intro d
 induction d with
 | zero =>
  intro i k hi hk
  obtain ⟨k, rfl⟩ : ∃ m, k = m + 1 := ⟨k - 1, by omega⟩
  simp only [stowagelaw01_Same.l0]
  rw [if_neg (by omega)]
 | succ d ih =>
  intro i k hi hk
  obtain ⟨k, rfl⟩ : ∃ m, k = m + 1 := ⟨k - 1, by omega⟩
  simp only [stowagelaw01_Same.l0]
  rw [if_pos (by omega), if_pos (by omega), if_pos (by omega), if_pos trivial, IntWalk.wrap64_in _ (by omega)]
  exact ih (i + 1) k (by omega) (by omega)
theorem same_self (a : List ByteArray) (hn : a.length ≤ 1152921504606846976) (k : Nat) (hk : a.length < k) : stowagelaw01_Same.f k a a = some true := by
 unfold stowagelaw01_Same.f
 rw [if_pos rfl]
 exact same_l0 a hn a.length 0 k (by omega) hk
theorem w_ExtentIDs (W : World) (hG : InG W) (s : ByteArray) (hs : s.size ≤ 140737488351232) :
  Calls Tryd.prog 3 #[.string s] W fun e w' => e = .returned (.bool true) ∧ Below W.heap.size W w' := by
 have G := Aside0.mk hG
 clear hG
 by_cases hl : (s.size : Int) > 32768
 ·have h1 : ((s.size : Int) > 32768) = True := eq_true hl
  clear hl hs
  go_enter Tryd.func3, Tryd.ntmps3
  go_wp2_with (fail)
  refine (awake_calls W G.out).mono ?_
  rintro e w1 ⟨rfl, hb⟩
  have B1 := Aside0.mk hb
  clear hb
  go_wp2
  go_ret
  exact ⟨rfl, B1.out⟩
 ·have h1 : ((s.size : Int) > 32768) = False := eq_false hl
  have HS : Aside0 (s.size ≤ 32768) := ⟨by omega⟩
  clear hl hs
  go_enter Tryd.func3, Tryd.ntmps3
  go_wp2_with (fail)
  refine (awake_calls W G.out).mono ?_
  rintro e w1 ⟨rfl, hb⟩
  have B1 := Aside0.mk hb
  clear hb
  go_wp2_with (fail)
  refine (ID_calls s (by have := HS.out; omega) w1 (G.out.below B1.out)).mono ?_
  rintro e w2 ⟨rfl, hb⟩
  have B2 := Aside0.mk (below_step B1.out hb)
  clear hb B1
  go_wp2_with (fail)
  refine (stowageref06_ID.calls 1001 s (idS s) w2 (ref_id s (by have := HS.out; omega) _ (by omega))).mono ?_
  rintro e w3 ⟨rfl, hb⟩
  have B3 := Aside0.mk (below_step B2.out hb)
  have q1 : ((idS s).toList == (idS s).toList) = true := beq_self_eq_true _
  clear hb B2
  go_wp2_with (fail)
  refine (extent_Cut.calls 32769 s (piecesS 4096 s) w3 (oct_cut s (by have := HS.out; omega) _ (by have := HS.out; omega))).mono ?_
  rintro e w4 ⟨v, rfl, hR, hb⟩
  have B4 := Aside0.mk (below_step B3.out hb)
  have R4 := Aside0.mk hR
  clear hb hR B3
  go_wp2_with (fail)
  refine (stowageref06_Cut.calls 32769 s 4096 (piecesS 4096 s) w4 (ref_cut 4096 (by decide) s (by have := HS.out; omega) _ (by have := HS.out; omega))).mono ?_
  rintro e w5 ⟨u, rfl, hR, hb⟩
  have B5 := Aside0.mk (below_step B4.out hb)
  obtain ⟨A, c, rfl, hc, hC⟩ := Kd.R_reads (Kd.R_below R4.out hb)
  obtain ⟨A', c', rfl, hc', hC'⟩ := Kd.R_reads hR
  have HC := Aside0.mk hC
  have HC' := Aside0.mk hC'
  have Hc := Aside0.mk hc
  have Hc' := Aside0.mk hc'
  have HP : Aside0 ((piecesS 4096 s).length ≤ 32768) := ⟨by have := pcs_len 4096 s.size s; unfold piecesS; have := HS.out; omega⟩
  clear hb hR B4 R4 hC hC' hc hc'
  go_wp2_with (fail)
  refine (stowagelaw01_Same.calls 32769 A c (piecesS 4096 s) A' c' (piecesS 4096 s) true w5 HC.out Hc.out HC'.out Hc'.out (same_self _ (by have := HP.out; omega) _ (by have := HP.out; omega))).mono ?_
  rintro e w6 ⟨rfl, nd, rfl⟩
  have B6 := Aside0.mk (pw_below_drewN B5.out nd)
  go_wp2
  go_ret
  exact ⟨rfl, B6.out⟩
end Go.Proofs.YtdeakccaecphlaaDoor.Q
