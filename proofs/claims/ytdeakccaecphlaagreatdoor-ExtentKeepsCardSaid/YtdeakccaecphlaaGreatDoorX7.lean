/- Extents that are not wanted go; the law's own calls. -/
import Derived.Outline
import Derived.Deep.DeepCutAuto
import Derived.Maps.OwnSet
import Derived.Test.YtdeakccaecphlaaGreatDoorX2
import Derived.Test.YtdeakccaecphlaaGreatDoorXl
namespace Go.Proofs.YtdeakccaecphlaaGreatDoor.Q
open Go.Maps Go.WideShapes Go.WideMaps Go.RowKit Go.Proofs.YtdeakccaecphlaaGreatDoorW.PrintWords Go.Proofs.YtdeakccaecphlaaGreatDoorW.PrintLast Go.Proofs.YtdeakccaecphlaaGreatDoorW.PrintMore
set_option linter.unusedVariables false
set_option linter.unusedSimpArgs false
set_option maxHeartbeats 10000000
set_option maxRecDepth 100000
/-! a map with counts -/
def cntS (ids : List ByteArray) (s : ByteArray) : Nat := ids.countP (fun x => sameN x s)
theorem cntS_snoc (ids : List ByteArray) (x s : ByteArray) : cntS (ids ++ [x]) s = cntS ids s + (if sameN x s = true then 1 else 0) := by
 unfold cntS
 rw [List.countP_append, List.countP_cons]
 simp
theorem cntS_zero (ids : List ByteArray) (s : ByteArray) : cntS ids s = 0 ↔ isIn ids s = false := by
 unfold cntS
 rw [List.countP_eq_zero, ← Bool.not_eq_true]
 unfold isIn
 rw [List.any_eq_true]
 constructor
 ·rintro h ⟨x, hx, h2⟩; exact h x hx h2
 ·intro h x hx h2; exact h ⟨x, hx, h2⟩
theorem zint (w : World) : (zeroValue 3).run Tryz.prog w = .ok (.int .i64 0) w := by kernel_rfl
def IsCM (W : World) (b : Nat) (n : Nat) (ids : List ByteArray) : Prop := ∃ D : DU, W.ownsMap Tryz.prog 9 (plainElem Tryz.prog 3) b n D ∧ ∀ s : ByteArray, D.atKey (kn s) (.lit (.int .i64 0)) = .lit (.int .i64 (cntS ids s : Nat))
theorem IsCM.lt {W : World} {b n : Nat} {ids : List ByteArray} (h : IsCM W b n ids) : b < W.heap.size := by
 obtain ⟨D, h, _⟩ := h
 exact h.lt
theorem IsCM.below {W W' : World} {b n : Nat} {ids : List ByteArray} (h : IsCM W b n ids) (hb : Below W.heap.size W W') : IsCM W' b n ids := by
 obtain ⟨D, ⟨es, clock, hm, r⟩, h2⟩ := h
 exact ⟨D, ⟨es, clock, (hb.block _ (lt_of_some hm)).trans hm, r⟩, h2⟩
theorem IsCM.alloc {W : World} {b n : Nat} {ids : List ByteArray} (h : IsCM W b n ids) (o : Obj) : IsCM (W.alloc o) b n ids := h.below (below_alloc (Below.refl _ _) _)
theorem IsCM.made (W : World) : IsCM (W.alloc (.map #[] 0)) W.heap.size 0 [] := ⟨.map [], World.ownsMap_made W _ _ _, fun s => rfl⟩
theorem wf_nat {c : Nat} (h : c < 9223372036854775807) : (Lit.int .i64 (c : Int)).wf = true := by
 simp [Lit.wf, IntKind.min, IntKind.max, IntKind.signed, IntKind.bits]
 omega
theorem IsCM.look {W : World} {b n : Nat} {ids : List ByteArray} (h : IsCM W b n ids) {s : ByteArray} (hs : s.size ≤ 9223372036854775807) : (Instr.lookup 69 (.map (some b)) (.string s) false).run Tryz.prog W = .ok (.int .i64 (cntS ids s : Nat)) W := by
 obtain ⟨D, h, h2⟩ := h
 obtain ⟨c, hrun, hat, _⟩ := h.lookup_int kstr Tryz.underlying69 Tryz.underlying3 (zint W) (key_of hs)
 rw [h2 s] at hat
 injection hat with hat
 injection hat with _ hat
 rw [hat]
 exact hrun
theorem IsCM.bump {W : World} {b n : Nat} {ids : List ByteArray} (h : IsCM W b n ids) (hn : n < 9223372036854775807) {s : ByteArray} (hs : s.size ≤ 9223372036854775807) (hc : cntS ids s < 1000000000) :
  ∃ w', (Instr.mapUpdate 69 (.map (some b)) (.string s) (.int .i64 (wrap64 ((cntS ids s : Nat) + 1)))).run Tryz.prog W = .ok () w' ∧ IsCM w' b (n + 1) (ids ++ [s]) ∧ W.mapTurned w' b := by
 obtain ⟨D, h, h2⟩ := h
 have e : wrap64 (((cntS ids s : Nat) : Int) + 1) = ((cntS ids s + 1 : Nat) : Int) := by rw [IntWalk.wrap64_in _ (by omega)]; omega
 rw [e]
 obtain ⟨w', h1, h3, h4⟩ := h.store kstr Tryz.underlying69 hn (key_of hs) (plainElem_int (H := Unit) Tryz.underlying3 (wf_nat (c := cntS ids s + 1) (by omega)))
 refine ⟨w', h1, ⟨_, h3, fun t => ?_⟩, h4⟩
 rw [cntS_snoc]
 by_cases ht : sameN s t = true
 ·have : s = t := sameN_iff.1 ht
  subst this
  rw [if_pos ht, Maps.atKey_put_same h.isMap (by trivial)]
 ·rw [if_neg ht, Maps.atKey_put_other (fun e => ht (sameN_iff.2 (ba_inj (by injection e with e; exact e.symm)))), h2 t]
  rfl
/-! extents that are not wanted go -/
noncomputable def goneK (l : Fs) (ids : List ByteArray) : List ByteArray := ((allX l).filter (fun id => !isIn ids id)).map eId
noncomputable def keepX (l : Fs) (ids : List ByteArray) : Fs := delsF l (goneK l ids)
def unw (ids xs : List ByteArray) : List ByteArray := (xs.filter (fun id => !isIn ids id)).map eId
theorem unw_snoc (ids xs : List ByteArray) (id : ByteArray) : unw ids (xs ++ [id]) = unw ids xs ++ (if isIn ids id = true then [] else [eId id]) := by
 unfold unw
 rw [List.filter_append, List.map_append]
 congr 1
 rw [List.filter_cons]
 cases isIn ids id <;> rfl
theorem unw_len (ids xs : List ByteArray) : (unw ids xs).length ≤ xs.length := by
 unfold unw
 rw [List.length_map]
 exact List.length_filter_le _ _
theorem goneK_spec {l : Fs} (h : Rises l) (ids : List ByteArray) : (∀ g ∈ goneK l ids, nameS g = true ∧ hasF l g = true) ∧ (goneK l ids).Nodup := by
 constructor
 ·intro g hg
  obtain ⟨id, h1, rfl⟩ := List.mem_map.1 hg
  obtain ⟨h2, h3⟩ := mem_allX.1 (List.mem_filter.1 h1).1
  exact ⟨may_name h2, h3⟩
 ·exact (List.pairwise_map.2 ((List.Pairwise.filter _ (allX_nodup h)).imp (fun hab e => hab (eId_inj e))))
theorem Keep_calls {w : World} {x d : Nat} {ok : Nat → Prop} {i : Nat} {l : Fs} {n : Int} (h : Sto w x d ok i l n) (A : Option Addr) (c : Nat) (ids : List ByteArray) (hC : Kd.C Kd.string w A ids.length ids) (hn : ids.length ≤ 1000000) (hz : ∀ s ∈ ids, s.size ≤ 1000000) (hi : i + l.length ≤ 800) :
  Calls Tryz.prog 18 #[.pointer (some ⟨x, 0, none⟩), .slice A ids.length c] w fun e w' => e = .returned (.tuple #[.int .i64 ((goneK l ids).length : Nat), .int .i64 0]) ∧ Sto w' x d ok (i + (goneK l ids).length) (keepX l ids) (n + (goneK l ids).length) ∧ Kp ok w w' := by
 have hu := Tryz.underlying64
 have hmm := @run_makeMap Tryz.prog
 have hum := Tryz.underlying69
 have H := Aside0.mk h
 have HC := Aside0.mk hC
 have HN := Aside0.mk hn
 have HZ := Aside0.mk hz
 have HI := Aside0.mk hi
 have HLN := Aside0.mk (allX_len l)
 have GS := Aside0.mk (goneK_spec h.good.ris ids)
 have hc0 : w.cell? ⟨x, 0, none⟩ = some (.pointer (some ⟨d, 0, none⟩)) := (blk_cell h.env.blk 0).trans rfl
 clear h hC hn hz hi
 obtain ⟨q, hq⟩ : ∃ q, q = ids.length := ⟨_, rfl⟩
 have HQ := Aside0.mk hq
 rw [← hq] at HC ⊢
 clear hq
 go_enter Tryz.func18, Tryz.ntmps18
 go_wp2_with (fail)
 refine (down_calls H.out.disk).mono ?_
 rintro e w1 ⟨rfl, rfl⟩
 rw [show (idl l n).down = false from rfl]
 have M1 := Aside0.mk (IsCM.made w1)
 have B1 : Aside0 (Below w1.heap.size w1 (w1.alloc (.map #[] 0))) := ⟨below_alloc (Below.refl _ _) _⟩
 clear hc0
 go_wp2_with (fail)
 clear hmm hum
 go_loopg [23] (q + 1) (fun kq v23 w' => ∃ (j : Nat), v23 = .int .i64 (j : Int) ∧ Aside0 (j + kq = q + 1 ∧ j ≤ q) ∧ Aside0 (IsCM w' w1.heap.size j (ids.take j)) ∧ Aside0 (Below w1.heap.size w1 w'))
 case atStart => exact ⟨0, rfl, ⟨by omega, by omega⟩, M1, B1⟩
 case round =>
  clear M1 B1
  obtain ⟨j, rfl, HJ, HM, HB⟩ := hrel
  cases gk with
  | zero => have := HJ.out; omega
  | succ k1 =>
   by_cases hj : j < q
   ·have hlt : ((j : Int) < (q : Int)) = True := eq_true (by omega)
    have hj2 : j < ids.length := by have := HQ.out; omega
    obtain ⟨s, hsx⟩ : ∃ s, ids[j]? = some s := ⟨_, List.getElem?_eq_getElem hj2⟩
    have hmem : s ∈ ids := List.mem_of_getElem? hsx
    have hrd : rdOf ByteArray.empty ids (j : Int) = s := by
     unfold rdOf
     rw [Int.toNat_natCast, List.getD_eq_getElem?_getD, hsx]
     rfl
    have HTK : Aside0 (ids.take (j + 1) = ids.take j ++ [s]) := ⟨by
     obtain ⟨hl, hx⟩ := List.getElem?_eq_some_iff.1 hsx
     rw [List.take_succ_eq_append_getElem hl, hx]⟩
    have HSZ := Aside0.mk (HZ.out s hmem)
    obtain ⟨ad, e, h0⟩ := (Kd.reads_of_C (enc := Value.string) (d := ByteArray.empty) (Kd.C_below HC.out HB.out)).at_ (j : Int) (by omega) (by omega)
    rw [Int.toNat_natCast, hrd] at h0
    subst e
    have hct : cntS (ids.take j) s ≤ j := by
     unfold cntS
     exact Nat.le_trans (List.countP_le_length ..) (by rw [List.length_take]; omega)
    have hL := HM.out.look (s := s) (by have := HSZ.out; omega)
    obtain ⟨w5, hU, hM, hT⟩ := HM.out.bump (by have := HN.out; have := HQ.out; omega) (s := s) (by have := HSZ.out; omega) (by have := HN.out; have := HQ.out; omega)
    have HM5 := Aside0.mk hM
    have HB5 : Aside0 (Below w1.heap.size w1 w5) := ⟨HB.out.grown hT.grown HB.out.size (fun k hk => by cases hk; exact Nat.le_refl _)⟩
    clear hsx hmem hj2 hrd hM hT hct
    generalize ((cntS (ids.take j) s : Nat) : Int) = ct at hL hU
    go_wp2_with (fail)
    go_roundg k1
    case measure => have := HJ.out; omega
    case rel => exact ⟨j + 1, by rw [IntWalk.wrap64_in _ (by have := HN.out; have := HQ.out; omega)]; rfl, ⟨by have := HJ.out; omega, by omega⟩, ⟨by rw [HTK.out]; exact HM5.out⟩, HB5⟩
   ·obtain rfl : j = q := by have := HJ.out; omega
    have hlt : ((j : Int) < (j : Int)) = False := eq_false (by omega)
    rw [HQ.out, List.take_length] at HM
    have S2 : Aside0 (IsSt wr x d) := ⟨(H.out.env.below HB.out).blk⟩
    have D2 := Aside0.mk (H.out.disk.below HB.out)
    go_wp2_with (fail)
    refine (All_calls S2.out D2.out rfl H.out.good.ris H.out.good.named (by have := HI.out; show l.length ≤ _; omega)).mono ?_
    rintro e w5 ⟨v, rfl, hR, hb⟩
    rw [show (idl l n).now = l from rfl] at hR
    obtain ⟨A, c', rfl, hlc, hC⟩ := Kd.R_reads hR
    obtain ⟨m, hm⟩ : ∃ m, m = (allX l).length := ⟨_, rfl⟩
    have HMM := Aside0.mk hm
    rw [← hm] at hC ⊢
    have HC5 := Aside0.mk hC
    have B5 := Aside0.mk (below_step HB.out hb)
    have M5 := Aside0.mk (HM.out.below hb)
    clear hR hb hC hlc hm HM HB S2 D2
    go_wp2_with (fail)
    go_loopg [9, 35] (m + 1) (fun kq v9 v35 w' => ∃ (t : Nat), v35 = .int .i64 (t : Int) ∧ Aside0 (t + kq = m + 1 ∧ t ≤ m) ∧ Aside0 (Kd.string.R 9 w' w5.heap.size (fun k => w5.heap.size ≤ k) v9 (unw ids ((allX l).take t))) ∧ Aside0 (Below w5.heap.size w5 w'))
    case atStart => exact ⟨0, rfl, ⟨by omega, by omega⟩, ⟨by rw [List.take_zero]; exact Kd.R_nil _ _ _ _ _⟩, ⟨Below.refl _ _⟩⟩
    case round =>
     obtain ⟨t, rfl, HT, HR, HB⟩ := hrel
     cases gk with
     | zero => have := HT.out; omega
     | succ k2 =>
      by_cases ht : t < m
      ·have hlt : ((t : Int) < (m : Int)) = True := eq_true (by omega)
       have ht2 : t < (allX l).length := by have := HMM.out; omega
       obtain ⟨id, hid⟩ : ∃ id, (allX l)[t]? = some id := ⟨_, List.getElem?_eq_getElem ht2⟩
       have hmem : id ∈ allX l := List.mem_of_getElem? hid
       have hrd : rdOf ByteArray.empty (allX l) (t : Int) = id := by
        unfold rdOf
        rw [Int.toNat_natCast, List.getD_eq_getElem?_getD, hid]
        rfl
       have HTK : Aside0 ((allX l).take (t + 1) = (allX l).take t ++ [id]) := ⟨by
        obtain ⟨hl, hx⟩ := List.getElem?_eq_some_iff.1 hid
        rw [List.take_succ_eq_append_getElem hl, hx]⟩
       have HIZ : Aside0 (id.size = 64) := ⟨(mayS_iff.1 (mem_allX.1 hmem).1).2⟩
       obtain ⟨ad, e, h0⟩ := (Kd.reads_of_C (enc := Value.string) (d := ByteArray.empty) (Kd.C_below HC5.out HB.out)).at_ (t : Int) (by omega) (by omega)
       rw [Int.toNat_natCast, hrd] at h0
       subst e
       have hL := (M5.out.below HB.out).look (s := id) (by have := HIZ.out; omega)
       have hsz : ((⟨#[101, 46]⟩ : ByteArray).size + id.size > 9223372036854775807) = False := eq_false (by have := HIZ.out; have e : (⟨#[101, 46]⟩ : ByteArray).size = 2 := rfl; omega)
       have hsz2 : (2 + id.size > 9223372036854775807) = False := eq_false (by have := HIZ.out; omega)
       have hsz3 : (9223372036854775807 < 2 + id.size) = False := eq_false (by have := HIZ.out; omega)
       clear hid hmem ht2 hrd
       cases hin : isIn ids id with
       | true =>
        have hc1 : (((cntS ids id : Nat) : Int) == 0) = false := by
         rw [beq_eq_false_iff_ne]
         intro e
         have := (cntS_zero ids id).1 (by omega)
         rw [hin] at this; cases this
        have HS2 : Aside0 (unw ids ((allX l).take (t + 1)) = unw ids ((allX l).take t)) := ⟨by rw [HTK.out, unw_snoc, if_pos hin, List.append_nil]⟩
        clear hin
        generalize ((cntS ids id : Nat) : Int) = ct at hL hc1
        go_wp2_with (fail)
        go_roundg k2
        case measure => have := HT.out; omega
        case rel => exact ⟨t + 1, by rw [IntWalk.wrap64_in _ (by have := HI.out; have := HLN.out; have := HMM.out; omega)]; rfl, ⟨by have := HT.out; omega, by omega⟩, ⟨by rw [HS2.out]; exact HR.out⟩, HB⟩
       | false =>
        have hc1 : ((cntS ids id : Nat) : Int) = 0 := by rw [(cntS_zero ids id).2 hin]; rfl
        rw [hc1] at hL
        have HS2 : Aside0 (unw ids ((allX l).take (t + 1)) = unw ids ((allX l).take t) ++ [eId id]) := ⟨by rw [HTK.out, unw_snoc, if_neg (by rw [hin]; simp)]⟩
        have HNL : Aside0 ((unw ids ((allX l).take t)).length ≤ 2000) := ⟨by have h1 := unw_len ids ((allX l).take t); rw [List.length_take] at h1; have := HLN.out; have := HI.out; omega⟩
        clear hin hc1
        go_wp2_with (first | ((with_reducible refine gate_builtin (b := .append) (xs := #[.tmp 43, .tmp 46]) rfl ?_); at_builtin; refine Kd.R_append Kd.string (w0 := w5) w5.heap.size rfl (.tmp 43) (.tmp 46) 40 9 (.string ⟨#[]⟩) 16 rfl Tryz.underlying40 info9 rfl (by decide) (by omega) u9 (unw ids ((allX l).take t)) (nE ++ id) [.string (nE ++ id)] (fun k => w5.heap.size ≤ k) (fun _ => False) rfl rfl rfl (fun _ hk => hk.elim) (fun k hk => Nat.le_trans HB.out.size hk) HR.out HB.out HB.out.size ?aL ?_; (case aL => have := HNL.out; omega); intro v8 w8 ho hb hg hat; have HO8 := Aside0.mk ho; have HB8 := Aside0.mk hb; clear ho hb hg hat))
        go_roundg k2
        case measure => have := HT.out; omega
        case rel => exact ⟨t + 1, by rw [IntWalk.wrap64_in _ (by have := HI.out; have := HLN.out; have := HMM.out; omega)]; rfl, ⟨by have := HT.out; omega, by omega⟩, ⟨by rw [HS2.out]; exact HO8.out⟩, HB8⟩
      ·obtain rfl : t = m := by have := HT.out; omega
       have hlt : ((t : Int) < (t : Int)) = False := eq_false (by omega)
       obtain ⟨A7, c7, rfl, hlc7, hC7⟩ := Kd.R_reads HR.out
       have hgone : unw ids ((allX l).take t) = goneK l ids := by rw [HMM.out, List.take_length]; rfl
       rw [hgone] at HR
       rw [hgone]
       have HLG : Aside0 ((goneK l ids).length ≤ l.length) := ⟨Nat.le_trans (unw_len ids (allX l)) HLN.out⟩
       have B9 : Aside0 (Below w1.heap.size w1 wr) := ⟨B5.out.trans (HB.out.mono B5.out.size)⟩
       obtain ⟨okp, hokp⟩ : ∃ okp : Nat → Prop, okp = fun k => (ok k ∧ k < w1.heap.size) ∨ wr.heap.size ≤ k := ⟨_, rfl⟩
       have SP : Aside0 (Sto wr x d okp i l n) := ⟨⟨⟨H.out.env.tab.below B9.out, by rw [hokp]; rintro (⟨h, _⟩ | h); exact H.out.env.no0 h; have := H.out.env.lt; have := B9.out.size; omega, by rw [hokp]; exact fun k hk => Or.inr hk, (H.out.env.below B9.out).blk, by rw [hokp]; rintro (⟨h, _⟩ | h); exact H.out.env.nox h; have := H.out.env.lt; have := B9.out.size; omega⟩, by rw [hokp]; exact (H.out.disk.bound.below B9.out).mono (fun k hk => Or.inl hk), H.out.good, H.out.sml⟩⟩
       have RK : Aside0 (∀ w', Kp okp wr w' → Kd.C Kd.string w' A7 (goneK l ids).length (goneK l ids)) := ⟨fun w' hk => (Kd.R_reads' (row_keep (Kd.R_mono (Kd.R_bound HR.out) (ok' := fun k => w5.heap.size ≤ k ∧ k < wr.heap.size) (fun k hk => ⟨hk.1, hk.2.2.1⟩)) (by rw [hokp]; rintro k ⟨h1, h2⟩ _ (⟨_, h3⟩ | h3); have := B5.out.size; omega; omega) w' hk)).2.2⟩
       have OKM : Aside0 (∀ k, okp k → ok k) := ⟨by rw [hokp]; rintro k (⟨h3, h4⟩ | h3); exact h3; exact H.out.env.new k (Nat.le_trans B9.out.size h3)⟩
       clear hokp hgone hlc7 hC7 HR
       go_wp2_with (fail)
       refine (remove_st SP.out A7 c7 (goneK l ids) RK.out (by have := HLG.out; have := HI.out; omega) (fun g hg => (GS.out.1 g hg).1) GS.out.2 (fun g hg => (GS.out.1 g hg).2)).mono ?_
       rintro e w9 ⟨rfl, hS, hK⟩
       have SF := Aside0.mk hS
       have KF := Aside0.mk hK
       clear hS hK
       go_wp2
       go_ret2
       have KW : Kp ok w1 w9 := ⟨KF.out.os.trans B9.out.os, KF.out.tape.trans B9.out.tape, KF.out.output.trans B9.out.output, Nat.le_trans B9.out.size KF.out.size, fun k hk hno => (KF.out.block k (Nat.lt_of_lt_of_le hk B9.out.size) (fun h => hno (OKM.out k h))).trans (B9.out.block k hk)⟩
       exact ⟨rfl, ⟨H.out.env.keep KW, SF.out.disk.mono (fun k hk => OKM.out k hk), SF.out.good, SF.out.sml⟩, KW⟩
/-! the law's own calls -/
def fewS (s : ByteArray) : ByteArray := if 5000 < s.size then s.extract 0 5000 else s
theorem fewS_size (s : ByteArray) : (fewS s).size ≤ 5000 := by
 unfold fewS
 split
 ·rw [ByteArray.size_extract]; omega
 ·omega
theorem few_eq (s : ByteArray) : stowagelaw06_few.f s = some (fewS s) := by
 unfold stowagelaw06_few.f fewS
 by_cases h : 5000 < s.size
 ·rw [if_pos (by omega), if_pos (by omega), if_pos h]
 ·rw [if_neg (by omega), if_neg h]
noncomputable def idsS (l : List ByteArray) : List ByteArray := (l.take 20).map (fun s => idS (fewS s))
theorem idsS_len (l : List ByteArray) : (idsS l).length ≤ 20 := by
 unfold idsS
 rw [List.length_map, List.length_take]
 omega
theorem idsS_size {l : List ByteArray} {s : ByteArray} (h : s ∈ idsS l) : s.size = 64 := by
 obtain ⟨t, _, rfl⟩ := List.mem_map.1 h
 exact idS_size _
theorem ids_go (l : List ByteArray) (hl : l.length ≤ 140737488351232) : ∀ (d j k : Nat), 20 - j ≤ d → j ≤ 20 → j ≤ l.length → 2000 + 2 * d < k → stowagelaw06_ids.l0 k l ((l.take j).map (fun s => idS (fewS s))) (j : Int) = some (idsS l)
 | 0, j, k, hd, hj, hjl, hk => by
  obtain ⟨k, rfl⟩ : ∃ m, k = m + 2 := ⟨k - 2, by omega⟩
  obtain rfl : j = 20 := by omega
  have fin : stowagelaw06_ids.j1 (k + 1) l ((l.take 20).map (fun s => idS (fewS s))) ((20 : Nat) : Int) false = some (idsS l) := by
   rw [stowagelaw06_ids.j1, if_neg (by simp)]; rfl
  rw [stowagelaw06_ids.l0]
  split
  ·rw [show decide (((20 : Nat) : Int) < 20) = false from by decide]; exact fin
  ·exact fin
 | d + 1, j, k, hd, hj, hjl, hk => by
  obtain ⟨k, rfl⟩ : ∃ m, k = m + 2 := ⟨k - 2, by omega⟩
  by_cases h20 : j = 20
  ·exact ids_go l hl 0 j (k + 2) (by omega) hj hjl (by omega)
  by_cases h : j < l.length
  ·have hx : rdOf ByteArray.empty l (j : Int) = l[j] := by
    unfold rdOf
    rw [Int.toNat_natCast, List.getD_eq_getElem?_getD, List.getElem?_eq_getElem h]; rfl
   have ih := ids_go l hl d (j + 1) k (by omega) (by omega) (by omega) (by omega)
   rw [List.take_succ_eq_append_getElem h, List.map_append] at ih
   rw [stowagelaw06_ids.l0, if_pos (by omega), show decide ((j : Int) < 20) = true from decide_eq_true (by omega), stowagelaw06_ids.j1, if_pos rfl, if_pos (by omega), if_pos (by omega), hx, few_eq, Option.bind_some, ref_id _ (by have := fewS_size l[j]; omega) k (by omega), Option.bind_some, if_pos (by rw [List.length_map, List.length_take]; omega), IntWalk.wrap64_in _ (by omega), show (j : Int) + 1 = ((j + 1 : Nat) : Int) by omega]
   exact ih
  ·have fin : stowagelaw06_ids.j1 (k + 1) l ((l.take j).map (fun s => idS (fewS s))) (j : Int) false = some (idsS l) := by
    rw [stowagelaw06_ids.j1, if_neg (by simp)]
    unfold idsS
    rw [List.take_of_length_le (by omega), List.take_of_length_le (by omega)]
   rw [stowagelaw06_ids.l0, if_neg (by omega)]
   exact fin
theorem ids_eq (l : List ByteArray) (hl : l.length ≤ 140737488351232) (k : Nat) (hk : 3000 < k) : stowagelaw06_ids.f k l = some (idsS l) := by
 have := ids_go l hl 20 0 k (by omega) (by omega) (by omega) (by omega)
 exact this
theorem among_go (s : ByteArray) (l : List ByteArray) (hl : l.length ≤ 140737488351232) : ∀ (d j k : Nat), j + d = l.length → d < k → stowagelaw06_among.l0 k s l (j : Int) = some (isIn (l.drop j) s)
 | 0, j, k, hj, hk => by
  obtain ⟨k, rfl⟩ : ∃ m, k = m + 1 := ⟨k - 1, by omega⟩
  rw [stowagelaw06_among.l0, if_neg (by omega), List.drop_of_length_le (by omega)]
  rfl
 | d + 1, j, k, hj, hk => by
  obtain ⟨k, rfl⟩ : ∃ m, k = m + 1 := ⟨k - 1, by omega⟩
  have h : j < l.length := by omega
  have hx : rdOf ByteArray.empty l (j : Int) = l[j] := by
   unfold rdOf
   rw [Int.toNat_natCast, List.getD_eq_getElem?_getD, List.getElem?_eq_getElem h]; rfl
  have ih := among_go s l hl d (j + 1) k (by omega) (by omega)
  have hd : isIn (l.drop j) s = (sameN l[j] s || isIn (l.drop (j + 1)) s) := by rw [List.drop_eq_getElem_cons h]; rfl
  rw [stowagelaw06_among.l0, if_pos (by omega), if_pos (by omega), hx, hd]
  by_cases he : l[j].toList = s.toList
  ·rw [if_pos he, show sameN l[j] s = true by rw [← eq_sameN]; exact beq_iff_eq.2 he]; rfl
  ·rw [if_neg he, show sameN l[j] s = false by rw [← eq_sameN]; exact beq_eq_false_iff_ne.2 he, IntWalk.wrap64_in _ (by omega), show (j : Int) + 1 = ((j + 1 : Nat) : Int) by omega, ih]; rfl
theorem among_eq (s : ByteArray) (l : List ByteArray) (hl : l.length ≤ 140737488351232) (k : Nat) (hk : l.length < k) : stowagelaw06_among.f k s l = some (isIn l s) := by
 have := among_go s l hl l.length 0 k (by omega) hk
 exact this
/-! what is wanted stays -/
theorem allX_keep {l : Fs} (h : Rises l) (ids : List ByteArray) : allX (keepX l ids) = (allX l).filter (isIn ids) := by
 unfold keepX
 rw [dels_eq h]
 have e1 : allX (l.filter (fun p => !isIn (goneK l ids) p.1)) = (((l.map (·.1)).filter isX).filter (fun n => !isIn (goneK l ids) n)).map idX := by
  unfold allX
  congr 1
  rw [show (fun p : ByteArray × ByteArray => !isIn (goneK l ids) p.1) = (fun n => !isIn (goneK l ids) n) ∘ (·.1) from rfl, ← List.filter_map, List.filter_filter, List.filter_filter]
  congr 1
  funext n
  exact Bool.and_comm _ _
 have key : ∀ N : List ByteArray, (∀ n ∈ N, (!isIn (goneK l ids) n) = isIn ids (idX n)) → (N.filter (fun n => !isIn (goneK l ids) n)).map idX = (N.map idX).filter (isIn ids) := by
  intro N h
  rw [List.filter_map]
  congr 1
  exact List.filter_congr h
 rw [e1]
 refine key _ (fun n hn => ?_)
 obtain ⟨h1, h2⟩ := List.mem_filter.1 hn
 obtain ⟨id, h3, rfl⟩ := isX_iff.1 h2
 show (!isIn (goneK l ids) (nE ++ id)) = isIn ids (idX (nE ++ id))
 rw [show idX (nE ++ id) = id from idX_e id]
 obtain ⟨p, hp, e⟩ := List.mem_map.1 h1
 have ha : id ∈ allX l := mem_allX.2 ⟨h3, hasF_iff.2 ⟨p, hp, e⟩⟩
 cases hi : isIn ids id with
 | true =>
  rw [Bool.not_eq_true', ← Bool.not_eq_true, isIn_iff]
  intro hg
  obtain ⟨j, hj, e⟩ := List.mem_map.1 hg
  obtain rfl := eId_inj e
  have := (List.mem_filter.1 hj).2
  rw [hi] at this
  cases this
 | false =>
  rw [Bool.not_eq_false', isIn_iff]
  exact List.mem_map.2 ⟨id, List.mem_filter.2 ⟨ha, by rw [hi]; rfl⟩, rfl⟩
theorem filter_len {α : Type} (p : α → Bool) : ∀ l : List α, (l.filter p).length + (l.filter (fun x => !p x)).length = l.length
 | [] => rfl
 | x :: l => by
  have ih := filter_len p l
  rw [List.filter_cons, List.filter_cons]
  cases p x <;> simp <;> omega
theorem keep_many {l : Fs} (h : Rises l) (ids : List ByteArray) : (allX (keepX l ids)).length + (goneK l ids).length = (allX l).length := by
 rw [allX_keep h]
 unfold goneK
 rw [List.length_map]
 exact filter_len (isIn ids) (allX l)
theorem keep_in {l : Fs} (h : Rises l) (ids : List ByteArray) {id : ByteArray} (hi : id ∈ allX l) : isIn (allX (keepX l ids)) id = isIn ids id := by
 rw [allX_keep h]
 cases he : isIn ids id with
 | true => exact isIn_iff.2 (List.mem_filter.2 ⟨hi, he⟩)
 | false =>
  rw [← Bool.not_eq_true, isIn_iff]
  intro hh
  have := (List.mem_filter.1 hh).2
  rw [he] at this
  cases this
theorem keep_again (l : Fs) : goneK l (allX l) = [] := by
 unfold goneK
 rw [List.filter_eq_nil_iff.2 (fun id hid => by rw [isIn_iff.2 hid]; simp)]
 rfl
theorem putX_new {l : Fs} (h : hasF l nEN = false) (s : ByteArray) : hasF (putX l s) nEN = false := by
 unfold putX
 split
 ·exact h
 ·rw [← Bool.not_eq_true, hasF_iff]
  rintro ⟨p, hp, e⟩
  rcases mem_putF.1 hp with rfl | ⟨hp, _⟩
  ·exact e_new (idS_may s) e
  ·have : hasF l nEN = true := hasF_iff.2 ⟨p, hp, e⟩
   rw [h] at this
   cases this
/-! a store, fenced: what was made since is not its own -/
abbrev okF (ok : Nat → Prop) (w w2 : World) : Nat → Prop := fun k => (ok k ∧ k < w.heap.size) ∨ w2.heap.size ≤ k
theorem Sto.fence {w w2 : World} {x d : Nat} {ok : Nat → Prop} {i : Nat} {l : Fs} {n : Int} (h : Sto w x d ok i l n) (hb : Below w.heap.size w w2) : Sto w2 x d (okF ok w w2) i l n := by
 have h1 := h.env.lt
 have h2 := hb.size
 refine ⟨⟨h.env.tab.below hb, ?_, fun k hk => Or.inr hk, (h.env.below hb).blk, ?_⟩, (h.disk.bound.below hb).mono (fun k hk => Or.inl hk), h.good, h.sml⟩
 ·rintro (⟨h3, _⟩ | h3)
  ·exact h.env.no0 h3
  ·omega
 ·rintro (⟨h3, _⟩ | h3)
  ·exact h.env.nox h3
  ·omega
theorem Sto.back {w w2 w9 : World} {x d : Nat} {ok : Nat → Prop} {i j : Nat} {l m : Fs} {n q : Int} (h : Sto w x d ok i l n) (hb : Below w.heap.size w w2) (hk : Kp (okF ok w w2) w2 w9) (hs : Sto w9 x d (okF ok w w2) j m q) : Sto w9 x d ok j m q ∧ Kp ok w w9 := by
 have hm : ∀ k, okF ok w w2 k → ok k := by
  rintro k (⟨h3, _⟩ | h3)
  ·exact h3
  ·exact h.env.new k (Nat.le_trans hb.size h3)
 have KW : Kp ok w w9 := ⟨hk.os.trans hb.os, hk.tape.trans hb.tape, hk.output.trans hb.output, Nat.le_trans hb.size hk.size, fun k h1 hno => (hk.block k (Nat.lt_of_lt_of_le h1 hb.size) (fun h => hno (hm k h))).trans (hb.block k h1)⟩
 exact ⟨⟨h.env.keep KW, hs.disk.mono hm, hs.good, hs.sml⟩, KW⟩
theorem row_fence {α : Type} {D : Kd α} {e : Nat} {w w2 w9 : World} {ok : Nat → Prop} {v : Value} {xs : List α} (hR : D.R e w2 w.heap.size (fun k => w.heap.size ≤ k) v xs) (hk : Kp (okF ok w w2) w2 w9) : D.R e w9 w.heap.size (fun k => w.heap.size ≤ k) v xs :=
 Kd.R_step hR (fun k h1 h2 => hk.block k h2 (by rintro (⟨_, h3⟩ | h3); exact absurd h3 (Nat.not_lt.2 h1); exact absurd h2 (Nat.not_lt.2 h3)))
end Go.Proofs.YtdeakccaecphlaaGreatDoor.Q
