

/- Written by a program of this session (wip/patch_print.py over the kit's print): functions of the given program as plain Lean functions, and that each call does what its function says, under no further conditions. -/
import Derived.Test.YtabngibognlmoaaQx0
import Derived.Test.YtabngibognlmoaaQx12
namespace Go.Proofs.Ytabngibognlmoaa.Q
open Go.RowKit Go.Proofs.YtabngibognlmoaaW.PrintWords Go.Proofs.YtabngibognlmoaaW.PrintLast Go.Proofs.YtabngibognlmoaaW.PrintMore
attribute [local go_sem] max2_int min2_int max_two min_two max_three min_three max_four min_four   -- for this text's walks alone
set_option linter.unusedVariables false
set_option linter.unusedSimpArgs false
attribute [local go_sem] xor_ones_u8 xor_ones_u16 xor_ones_u32 xor_ones_u64 cell_twice frozen_twice
abbrev znaa := @blk_drew
abbrev znab := @pw_below_drewN
abbrev znac := @below_drew1
abbrev znad := @below_alloc
abbrev znae := @Aside0.mk
/-! ### stowageref04_Disk_Used: function 50 -/
def stowageref04_Disk_Used.l0 : Nat → Int → List (S48) → Int → Option (Int)
 | 0, _, _, _ => none
 | k + 1, x3, x4, x5 => if x5 < (x4.length : Int) then (if 0 ≤ x5 then (stowageref04_Disk_Used.l0 k (wrap64 (x3 + (((rd_T48 x4 x5).f1).size : Int))) x4 (wrap64 (x5 + 1))) else (none)) else (some x3)
def stowageref04_Disk_Used.f (k : Nat) (l0_0 : List (S48)) (l0_1 : List (S86)) (a0_2 : Int) (a0_3 : Bool) (l0_4 : List (S90)) (a0_5 : Int) : Option (Int) := (stowageref04_Disk_Now.f k l0_0 l0_1 a0_2 a0_3 l0_4 a0_5).bind fun t298 => (stowageref04_Disk_Used.l0 k 0 t298 0)
set_option maxHeartbeats 8000000 in
set_option maxRecDepth 100000 in
theorem stowageref04_Disk_Used.calls (k : Nat) (A0_0 : Option Addr) (c0_0 : Nat) (l0_0 : List (S48)) (A0_1 : Option Addr) (c0_1 : Nat) (l0_1 : List (S86)) (a0_2 : Int) (a0_3 : Bool) (A0_4 : Option Addr) (c0_4 : Nat) (l0_4 : List (S90)) (a0_5 : Int) (r : Int) (w : World) (hr0_0 : Kd.C k48 w A0_0 l0_0.length l0_0) (hc0_0 : l0_0.length ≤ c0_0) (hr0_1 : Kd.C k86 w A0_1 l0_1.length l0_1) (hc0_1 : l0_1.length ≤ c0_1) (hr0_4 : Kd.C k90 w A0_4 l0_4.length l0_4) (hc0_4 : l0_4.length ≤ c0_4) (h : stowageref04_Disk_Used.f k l0_0 l0_1 a0_2 a0_3 l0_4 a0_5 = some r) :
  Calls Try.prog 50 #[.agg #[.slice A0_0 l0_0.length c0_0, .slice A0_1 l0_1.length c0_1, .int .i64 a0_2, .bool a0_3, .slice A0_4 l0_4.length c0_4, .int .i64 a0_5]] w fun e w' => e = .returned (.int .i64 r) ∧ Below w.heap.size w w' := by
 have hu57 := Try.underlying57
 have HR0_0 := znae hr0_0
 have HC0_0 := znae hc0_0
 clear hr0_0 hc0_0
 have HR0_1 := znae hr0_1
 have HC0_1 := znae hc0_1
 clear hr0_1 hc0_1
 have HR0_4 := znae hr0_4
 have HC0_4 := znae hc0_4
 clear hr0_4 hc0_4
 have HB := znae (Below.refl w.heap.size w)
 have H : ((stowageref04_Disk_Now.f k l0_0 l0_1 a0_2 a0_3 l0_4 a0_5).bind fun t298 => (stowageref04_Disk_Used.l0 k 0 t298 0)) = some r := h
 clear h
 replace H := Option.bind_eq_some_iff.mp H
 obtain ⟨t298, A20, H⟩ := H
 replace H : (stowageref04_Disk_Used.l0 k 0 t298 0) = some r := H
 have A2 := znae A20
 clear A20
 have H' := znae H
 clear H
 go_enter Try.func50, Try.ntmps50
 go_wp2_with (first | ((with_reducible refine gate_dst (N := 1) rfl ?_); refine box_event ?hg (N := 1) ?hd (cs := #[.slice A0_0 l0_0.length c0_0, .slice A0_1 l0_1.length c0_1, .int .i64 a0_2, .bool a0_3, .slice A0_4 l0_4.length c0_4, .int .i64 a0_5]) (t := 57) ?hr ?_; (case hd => rfl); (case hg => rfl); (case hr => first | (go_simp; done) | (go_simp; rfl)); intro znag hg w3 hbox hb; have n0_ := znae (below_step (by repeat (first | (with_reducible first | exact HB.out | apply znad | apply znab | apply znac) | exact HB.out)) hb); have n1_ := znae (hbox); have n2_ := znae ((by rw [hg]; exact (below_size (by repeat (first | (with_reducible first | exact HB.out | apply znad | apply znab | apply znac) | exact HB.out))) : w.heap.size ≤ znag)); have n3_ := znae ((by rw [hg]; exact (below_size (by repeat (first | (with_reducible first | exact HB.out | apply znad | apply znab | apply znac) | exact HB.out))) : w.heap.size ≤ znag)); clear HB; have HB := n0_; have znaf := n1_; have znaw := n2_; have znai := n3_; clear n0_ n1_ n2_ n3_; clear hb hbox hg; have znak : w3.cell? ⟨znag, 0, none⟩ = some (.slice A0_0 l0_0.length c0_0) := (blk_cell znaf.out 0).trans rfl; have znal : w3.cell? ⟨znag, 1, none⟩ = some (.slice A0_1 l0_1.length c0_1) := (blk_cell znaf.out 1).trans rfl; have znam : w3.cell? ⟨znag, 2, none⟩ = some (.int .i64 a0_2) := (blk_cell znaf.out 2).trans rfl; have znan : w3.cell? ⟨znag, 3, none⟩ = some (.bool a0_3) := (blk_cell znaf.out 3).trans rfl; have znao : w3.cell? ⟨znag, 4, none⟩ = some (.slice A0_4 l0_4.length c0_4) := (blk_cell znaf.out 4).trans rfl; have znap : w3.cell? ⟨znag, 5, none⟩ = some (.int .i64 a0_5) := (blk_cell znaf.out 5).trans rfl; have znaq := blk_frozen znaf.out 0; have znar := blk_frozen znaf.out 1; have znas := blk_frozen znaf.out 2; have znat := blk_frozen znaf.out 3; have znau := blk_frozen znaf.out 4; have znav := blk_frozen znaf.out 5) | ((with_reducible refine gate_callee (f := 49) rfl ?_); refine goesL_ (some 7) rfl rfl Try.func49 (by kernel_rfl) rfl #[.agg #[.slice A0_0 l0_0.length c0_0, .slice A0_1 l0_1.length c0_1, .int .i64 a0_2, .bool a0_3, .slice A0_4 l0_4.length c0_4, .int .i64 a0_5]] rfl (by (try simp only [List.map_toArray, List.map_cons, List.map_nil]); first | done | rfl) ?_; (with_reducible refine (stowageref04_Disk_Now.calls k (fun k_ => k_ < w.heap.size) _ _ l0_0 _ _ l0_1 a0_2 a0_3 _ _ l0_4 a0_5 t298 _ ?side1 ?side2 ?side3 ?side4 ?side5 A2.out).mono ?_); (case side1 => exact Kd.V_mk HC0_0.out (Kd.F_below (Kd.C_F k48_heap HR0_0.out) (by repeat (first | (with_reducible first | exact HB.out | apply znad | apply znab | apply znac | refine below_set ?_ znai.out) | exact HB.out)))); (case side2 => repeat (first | exact (Kd.C_below HR0_1.out HB.out) | (with_reducible refine Kd.C_alloc ?_ _) | (with_reducible refine Kd.C_drewN ?_ _) | (with_reducible refine Kd.C_drew ?_))); (case side3 => exact HC0_1.out); (case side4 => repeat (first | exact (Kd.C_below HR0_4.out HB.out) | (with_reducible refine Kd.C_alloc ?_ _) | (with_reducible refine Kd.C_drewN ?_ _) | (with_reducible refine Kd.C_drew ?_))); (case side5 => exact HC0_4.out); rintro e w5 ⟨v299, rfl, ho0, hb⟩; refine ⟨_, rfl, ?_⟩; have n0_ := znae (Kd.V_lower (Kd.V_mono (ok' := fun k_ => k_ ≠ znag) ho0 (fun k_ hk_ => Or.elim hk_ (fun hs_ => fun e_ => Nat.not_le.2 hs_ (by rw [e_]; exact znaw.out)) (fun hn_ => (Kd.freshB (g := znag) (o := .cells #[.slice A0_0 l0_0.length c0_0, .slice A0_1 l0_1.length c0_1, .int .i64 a0_2, .bool a0_3, .slice A0_4 l0_4.length c0_4, .int .i64 a0_5] 57 (0, 0)) (zbk znaf) k_ hn_)))) (below_size (by repeat (first | (with_reducible first | exact HB.out | apply znad | apply znab | apply znac | refine below_set ?_ znai.out) | exact HB.out)))); have n1_ := znae (blk_below (g := znag) (o := .cells #[.slice A0_0 l0_0.length c0_0, .slice A0_1 l0_1.length c0_1, .int .i64 a0_2, .bool a0_3, .slice A0_4 l0_4.length c0_4, .int .i64 a0_5] 57 (0, 0)) (zbk znaf) hb); have n2_ := znae (below_step (by repeat (first | (with_reducible first | exact HB.out | apply znad | apply znab | apply znac | refine below_set ?_ znai.out) | exact HB.out)) hb); clear znaf; clear HB; have HO300 := n0_; have znaf := n1_; have HB := n2_; clear n0_ n1_ n2_; (try clear hb); (try clear hk); (try clear hi); (try clear ho0)))
 go_loopg [3, 5] k (fun kq v3 v5 w' => ∃ (znaj : Int) (znah : Int), v3 = .int .i64 znaj ∧ v5 = .int .i64 znah ∧ Aside0 (stowageref04_Disk_Used.l0 kq znaj t298 znah = some r) ∧ Aside0 (kq ≤ k) ∧ Aside0 (Kd.V k48 48 w' w.heap.size (fun k_ => k_ ≠ znag) v299 t298) ∧ Aside0 (w'.heap[znag]? = some (.cells #[(.slice A0_0 l0_0.length c0_0), (.slice A0_1 l0_1.length c0_1), .int .i64 a0_2, .bool a0_3, (.slice A0_4 l0_4.length c0_4), .int .i64 a0_5] 57 (0, 0))) ∧ Aside0 (Below w.heap.size w w'))
 case atStart => exact ⟨(0), (0), (by first | rfl | (simp; done) | (simp [*]; done)), (by first | rfl | (simp; done) | (simp [*]; done)), H', ⟨Nat.le_refl _⟩, ⟨zvk HO300⟩, ⟨zbk znaf⟩, ⟨by repeat (first | (with_reducible first | exact HB.out | apply znad | apply znab | apply znac | refine below_set ?_ znai.out) | exact HB.out)⟩⟩
 case round =>
  clear H'
  try clear p2
  try clear c4
  try clear c5
  try clear znak
  try clear znal
  try clear znam
  try clear znan
  try clear znao
  try clear znap
  try clear znaq
  try clear znar
  try clear znas
  try clear znat
  try clear znau
  try clear znav
  obtain ⟨znaj, znah, rfl, rfl, HA, HK1, HO_4, znaf, HB⟩ := hrel
  cases gk with
  | zero => exact absurd HA.out (by simp [stowageref04_Disk_Used.l0])
  | succ k1 =>
   have H := HA.out
   clear HA
   simp only [stowageref04_Disk_Used.l0] at H
   by_cases c6 : znah < (t298.length : Int)
   ·rw [if_pos c6] at H
    have c6b0 : decide (znah < (t298.length : Int)) = true := decide_eq_true c6
    clear c6
    by_cases c7 : 0 ≤ znah
    ·rw [if_pos c7] at H
     have c7b0 : decide (0 ≤ znah) = true := decide_eq_true c7
     clear c7
     have H' := znae H
     clear H
     obtain ⟨Ao8, co8, eo8⟩ := Kd.V_slice HO_4.out
     subst eo8
     have p301 : 0 ≤ (znah : Int) := of_decide_eq_true (by first | (with_reducible assumption) | assumption)
     have q301 : znah < (t298.length : Int) := of_decide_eq_true (by first | (with_reducible assumption) | assumption)
     obtain ⟨ad301, e301, hx301_0, hx301_1⟩ := at_T48 (Kd.V_reads' HO_4.out).2.2 znah p301 q301
     cases e301
     replace p301 := eq_true p301
     replace q301 := eq_true q301
     go_wp2
     go_roundg k1
     case measure => have := HK1.out; omega
     case rel => exact ⟨(wrap64 (znaj + (((rd_T48 t298 znah).f1).size : Int))), (wrap64 (znah + 1)), (by first | rfl | (simp; done) | (simp [*]; done)), (by first | rfl | (simp; done) | (simp [*]; done)), H', ⟨by have := HK1.out; omega⟩, ⟨zvk HO_4⟩, ⟨zbk znaf⟩, ⟨by repeat (first | (with_reducible first | exact HB.out | apply znad | apply znab | apply znac | refine below_set ?_ znai.out) | exact HB.out)⟩⟩
    ·rw [if_neg c7] at H
     exact absurd H (by simp)
   ·rw [if_neg c6] at H
    have c6b0 : decide (znah < (t298.length : Int)) = false := decide_eq_false c6
    clear c6
    obtain rfl := Option.some.inj H
    obtain ⟨Ao9, co9, eo9⟩ := Kd.V_slice HO_4.out
    subst eo9
    go_wp2
    go_ret
    exact ⟨by first | rfl | (simp [errW_none, errW_some] <;> rfl) | (simp [*, errW_none, errW_some] <;> rfl), by repeat (first | (with_reducible first | exact HB.out | apply znad | apply znab | apply znac | refine below_set ?_ znai.out) | exact HB.out)⟩

end Go.Proofs.Ytabngibognlmoaa.Q