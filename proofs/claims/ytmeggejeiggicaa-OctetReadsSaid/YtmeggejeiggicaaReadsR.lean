/- Written by a program of this session (wip/patch_print.py over the kit's print): functions of the given program as plain Lean functions, and that each call does what its function says, under no further conditions. -/
import Derived.Test.YtmeggejeiggicaaRx3
namespace Go.Proofs.Ytmeggejeiggicaa.R
open Go.RowKit Go.Proofs.YtmeggejeiggicaaW.PrintWords Go.Proofs.YtmeggejeiggicaaW.PrintLast Go.Proofs.YtmeggejeiggicaaW.PrintMore
attribute [local go_sem] max2_int min2_int max_two min_two max_three min_three max_four min_four   -- for this text's walks alone
set_option linter.unusedVariables false
set_option linter.unusedSimpArgs false

attribute [local go_sem] xor_ones_u8 xor_ones_u16 xor_ones_u32 xor_ones_u64 cell_twice frozen_twice
abbrev qaa := @List.setIfInBounds_toArray
abbrev qab := @List.set_cons_zero
abbrev qac := @List.set_cons_succ
abbrev qad := @World.block_lt_of_cell?
abbrev qae := @blk_drewN
abbrev qaf := @blk_alloc
abbrev qag := @blk_drew
abbrev qah := @below_set
abbrev qai := @pw_below_drewN
abbrev qaj := @below_drew1
abbrev qak := @below_alloc
abbrev qal := @blk_cell
abbrev qam := @blk_frozen
abbrev qan := @cell_far
abbrev qao := @Nat.lt_of_lt_of_le
abbrev qap := @Nat.ne_of_lt
abbrev qaq := @Nat.ne_of_gt
abbrev qar := @List.map_toArray
abbrev qas := @List.map_cons
abbrev qat := @List.map_nil
abbrev qau := @Aside0.mk
abbrev qav := @add_block
abbrev qaw := @Option.bind_eq_some_iff
abbrev qax := @IsS83.alloc
abbrev qay := @IsS83.below
abbrev qaz := @IsS83.drew
abbrev qba := @IsS83.drewN
abbrev qbb := @IsS83.far
abbrev qbc := @IsS83.ge
abbrev qbd := @IsS83.set_0
abbrev qbe := @IsS83.set_1
abbrev qbf := @IsS83.set_2
abbrev sq0 : Array Bool := #[false, false, false, false, false, false, false, false, false, false, false, false, false, false]
abbrev sq1 : Array Bool := #[false, true, false, false, false, false, false, false, false, false, false, false, false, false]
abbrev sq2 : Array Bool := #[false, true, true, false, false, false, false, false, false, false, false, false, false, false]
abbrev sq3 : Array Bool := #[false, true, true, true, false, false, false, false, false, false, false, false, false, false]
abbrev sq4 : Array Bool := #[false, true, true, true, true, false, false, false, false, false, false, false, false, false]
abbrev sq5 : Array Bool := #[true, true, true, true, true, false, false, false, false, false, false, false, false, false]
abbrev sq6 : Array Bool := #[true, true, true, true, true, true, false, false, false, false, false, false, false, false]
abbrev sq7 : Array Bool := #[true, true, true, true, true, true, true, false, false, false, false, false, false, false]
abbrev sq8 : Array Bool := #[true, true, true, true, true, true, true, true, true, true, true, true, false, false]
abbrev sq9 : Array Bool := #[true, true, true, true, true, true, true, true, false, false, false, false, false, false]
abbrev sq10 : Array Bool := #[true, true, true, true, true, true, true, false, false, false, false, true, false, false]
abbrev sq11 : Array Bool := #[true, true, true, true, true, true, true, true, true, false, false, false, false, false]
abbrev sq12 : Array Bool := #[true, true, true, true, true, true, true, true, true, true, false, false, false, false]
abbrev sq13 : Array Bool := #[true, true, true, true, true, true, true, true, true, true, true, false, false, false]
abbrev sq14 : Array Bool := #[true, true, true, true, true, true, true, true, false, false, false, true, false, false]
abbrev sq15 : Array Bool := #[true, true, true, true, true, true, true, true, true, false, false, true, false, false]
abbrev sq16 : Array Bool := #[true, true, true, true, true, true, true, true, true, true, false, true, false, false]
abbrev sq17 : Array Bool := #[true, true, true, true, true, true, true, true, true, true, true, true, true, false]
abbrev sq18 : Array Bool := #[true, true, true, true, true, true, true, true, true, true, true, true, true, true]
abbrev sq19 : Array Bool := #[false, false, false, false, false, false, false, false, false, false, false, false, false]
abbrev sq20 : Array Bool := #[false, true, false, false, false, false, false, false, false, false, false, false, false]
abbrev sq21 : Array Bool := #[false, true, true, false, false, false, false, false, false, false, false, false, false]
abbrev sq22 : Array Bool := #[false, true, true, true, false, false, false, false, false, false, false, false, false]
abbrev sq23 : Array Bool := #[false, true, true, true, true, false, false, false, false, false, false, false, false]
abbrev sq24 : Array Bool := #[true, true, true, true, true, false, false, false, false, false, false, false, false]
abbrev sq25 : Array Bool := #[true, true, true, true, true, true, false, false, false, false, false, false, false]
abbrev sq26 : Array Bool := #[true, true, true, true, true, true, true, true, true, true, true, false, false]
abbrev sq27 : Array Bool := #[true, true, true, true, true, true, true, false, false, false, false, false, false]
abbrev sq28 : Array Bool := #[true, true, true, true, true, true, false, false, false, false, true, false, false]
abbrev sq29 : Array Bool := #[true, true, true, true, true, true, true, true, false, false, false, false, false]
abbrev sq30 : Array Bool := #[true, true, true, true, true, true, true, true, true, false, false, false, false]
abbrev sq31 : Array Bool := #[true, true, true, true, true, true, true, true, true, true, false, false, false]
abbrev sq32 : Array Bool := #[true, true, true, true, true, true, true, false, false, false, true, false, false]
abbrev sq33 : Array Bool := #[true, true, true, true, true, true, true, true, false, false, true, false, false]
abbrev sq34 : Array Bool := #[true, true, true, true, true, true, true, true, true, false, true, false, false]
abbrev sq35 : Array Bool := #[true, true, true, true, true, true, true, true, true, true, true, true, false]
abbrev sq36 : Array Bool := #[true, true, true, true, true, true, true, true, true, true, true, true, true]
abbrev sq37 : Array Bool := #[false, false, false, false, false, false, false, false, false, false, false, false, false, false, false, false]
abbrev sq38 : Array Bool := #[true, false, false, false, false, false, false, false, false, false, false, false, false, false, false, false]
abbrev sq39 : Array Bool := #[true, true, false, false, false, false, false, false, false, false, false, false, false, false, false, false]
abbrev sq40 : Array Bool := #[true, true, true, false, false, false, false, false, false, false, false, false, false, false, false, false]
abbrev sq41 : Array Bool := #[true, true, true, true, false, false, false, false, false, false, false, false, false, false, false, false]
abbrev sq42 : Array Bool := #[true, true, true, true, false, true, false, false, false, false, false, false, false, false, false, false]
abbrev sq43 : Array Bool := #[true, true, true, true, false, true, true, false, false, false, false, false, false, false, false, false]
abbrev sq44 : Array Bool := #[true, true, true, true, true, true, true, false, false, false, false, false, false, false, false, false]
abbrev sq45 : Array Bool := #[true, true, true, true, true, true, true, true, false, false, false, false, false, false, false, false]
abbrev sq46 : Array Bool := #[true, true, true, true, true, true, true, true, true, false, false, false, false, false, false, false]
abbrev sq47 : Array Bool := #[true, true, true, true, true, true, true, true, true, true, false, false, false, false, false, false]
abbrev sq48 : Array Bool := #[true, true, true, true, true, true, true, true, true, true, true, false, false, false, false, false]
abbrev sq49 : Array Bool := #[true, true, true, true, true, true, true, true, true, true, true, false, true, false, false, false]
abbrev sq50 : Array Bool := #[true, true, true, true, true, true, true, true, true, true, true, false, true, true, false, false]
abbrev sq51 : Array Bool := #[true, true, true, true, true, true, true, true, true, true, true, true, true, true, false, false]
abbrev sq52 : Array Bool := #[true, true, true, true, true, true, true, true, true, true, true, true, true, true, true, false]
abbrev sq53 : Array Bool := #[true, true, true, true, true, true, true, true, true, true, true, true, true, true, true, true]
abbrev sq54 : Array Bool := #[true, true, true, true, true, true, true, true, true, true, true, true, false, false, false, false]
abbrev sq55 : Array Bool := #[true, true, true, true, true, true, true, true, true, true, true, true, true, false, false, false]
abbrev sq56 : Array Bool := #[true, true, true, true, true, false, false, false, false, false, false, false, false, false, false, false]
abbrev sq57 : Array Bool := #[true, true, true, true, true, true, false, false, false, false, false, false, false, false, false, false]
/-! ### stowagelaw01_OctetReads: function 9 -/
mutual
def stowagelaw01_OctetReads.j0 : Nat → List (S63) → Bool → ByteArray → Int → Int → ByteArray → Int → Int → Option (Bool)
 | 0, _, _, _, _, _, _, _, _ => none
 | k + 1, x1, x28, qdf, qdg, qdh, qdi, qdj, qdk => if x28 = true then (some false) else (stowagelaw01_OctetReads.l0 k x1 0 qdf qdg qdh qdi qdj qdk)
def stowagelaw01_OctetReads.l0 : Nat → List (S63) → Int → ByteArray → Int → Int → ByteArray → Int → Int → Option (Bool)
 | 0, _, _, _, _, _, _, _, _ => none
 | k + 1, x1, x7, qdf, qdg, qdh, qdi, qdj, qdk => if x7 < (x1.length : Int) then (if 0 ≤ x7 then (if ((rd_T63 x1 x7).f0) = 0 then ((stowageref01_Reader_Number.f k qdi qdj qdk (IntKind.u64.wrap ((rd_T63 x1 x7).f1))).bind fun bt192 => ((octet_Reader_Number.f k qdf qdg qdh (IntKind.u64.wrap ((rd_T63 x1 x7).f1))).bind fun bt198 => (stowagelaw01_OctetReads.j2 k x1 x7 (bt198.1 == bt192.2.2.2) bt198.2.1 bt198.2.2.1 bt198.2.2.2 bt192.1 bt192.2.1 bt192.2.2.1))) else (if ((rd_T63 x1 x7).f0) = 1 then ((stowageref01_Reader_Int.f k qdi qdj qdk ((rd_T63 x1 x7).f1)).bind fun bt203 => ((octet_Reader_Int.f k qdf qdg qdh ((rd_T63 x1 x7).f1)).bind fun bt209 => (stowagelaw01_OctetReads.j2 k x1 x7 (bt209.1 == bt203.2.2.2) bt209.2.1 bt209.2.2.1 bt209.2.2.2 bt203.1 bt203.2.1 bt203.2.2.1))) else (if ((rd_T63 x1 x7).f0) = 2 then ((stowageref01_Reader_Text.f k qdi qdj qdk ((rd_T63 x1 x7).f1)).bind fun bt214 => ((octet_Reader_Text.f k qdf qdg qdh ((rd_T63 x1 x7).f1)).bind fun bt220 => (stowagelaw01_OctetReads.j2 k x1 x7 (bt220.1.toList == bt214.2.2.2.toList) bt220.2.1 bt220.2.2.1 bt220.2.2.2 bt214.1 bt214.2.1 bt214.2.2.1))) else (if ((rd_T63 x1 x7).f0) = 3 then ((stowageref01_Reader_Bool.f k qdi qdj qdk).bind fun bt224 => ((octet_Reader_Bool.f k qdf qdg qdh).bind fun bt229 => (stowagelaw01_OctetReads.j2 k x1 x7 (bt229.1 == bt224.2.2.2) bt229.2.1 bt229.2.2.1 bt229.2.2.2 bt224.1 bt224.2.1 bt224.2.2.1))) else (if ((rd_T63 x1 x7).f0) = 4 then ((octet_Reader_Fail.f qdf qdg qdh ((rd_T63 x1 x7).f1)).bind fun bt234 => (if qdk = 0 then (stowagelaw01_OctetReads.j2 k x1 x7 true bt234.1 bt234.2.1 bt234.2.2 qdi qdj ((rd_T63 x1 x7).f1)) else (stowagelaw01_OctetReads.j2 k x1 x7 true bt234.1 bt234.2.1 bt234.2.2 qdi qdj qdk))) else ((stowageref01_Reader_End.f qdi qdj qdk).bind fun bt238 => ((octet_Reader_End.f qdf qdg qdh).bind fun bt241 => (stowagelaw01_OctetReads.j2 k x1 x7 (bt241.1 == bt238.2.2) bt241.2.1 bt241.2.2.1 bt241.2.2.2 bt238.1 bt238.2.1 bt238.2.2)))))))) else (none)) else ((octet_Reader_FailN.f 5).bind fun _ => ((octet_Reader_NumberN.f 9).bind fun t253 => (if t253 = 0 then ((octet_Reader_IntN.f 9).bind fun t254 => (if t254 = 0 then ((octet_Reader_TextN.f 9).bind fun t255 => (if t255.toList = ([] : List UInt8) then ((octet_Reader_BoolN.f).bind fun t256 => (if t256 = true then (some false) else ((octet_Reader_ErrN.f).bind fun t257 => (if t257 = 1 then ((octet_Reader_AtN.f).bind fun t258 => (if t258 = 0 then ((octet_Reader_EndN.f).bind fun t259 => (some (t259 == 1))) else (some false))) else (some false))))) else (some false))) else (some false))) else (some false))))
def stowagelaw01_OctetReads.j2 : Nat → List (S63) → Int → Bool → ByteArray → Int → Int → ByteArray → Int → Int → Option (Bool)
 | 0, _, _, _, _, _, _, _, _, _ => none
 | k + 1, x1, x7, x9, qdf, qdg, qdh, qfo, qea, qeb => if x9 = true then ((octet_Reader_Err.f qdf qdg qdh).bind fun bt245 => (if bt245.1 = qeb then ((octet_Reader_At.f bt245.2.1 bt245.2.2.1 bt245.2.2.2).bind fun bt249 => (if bt249.1 = qea then (stowagelaw01_OctetReads.l0 k x1 (wrap64 (x7 + 1)) bt249.2.1 bt249.2.2.1 bt249.2.2.2 qfo qea qeb) else (some false))) else (some false))) else (some false)
end
def stowagelaw01_OctetReads.f (k : Nat) (a0 : ByteArray) (l1 : List (S63)) : Option (Bool) := (octet_NewReader.f a0).bind fun bt183 => ((stowagelaw01_awake.f k).bind fun t188 => (if t188 = true then (stowagelaw01_OctetReads.j0 k l1 false bt183.1 bt183.2.1 bt183.2.2 a0 0 0) else (stowagelaw01_OctetReads.j0 k l1 true bt183.1 bt183.2.1 bt183.2.2 a0 0 0)))
theorem stowagelaw01_OctetReads.mono_l : ∀ k, (∀ y0 y1 y2 y3 y4 y5 y6 y7, LeO (stowagelaw01_OctetReads.j0 k y0 y1 y2 y3 y4 y5 y6 y7) (stowagelaw01_OctetReads.j0 (k + 1) y0 y1 y2 y3 y4 y5 y6 y7)) ∧ (∀ y0 y1 y2 y3 y4 y5 y6 y7, LeO (stowagelaw01_OctetReads.l0 k y0 y1 y2 y3 y4 y5 y6 y7) (stowagelaw01_OctetReads.l0 (k + 1) y0 y1 y2 y3 y4 y5 y6 y7)) ∧ (∀ y0 y1 y2 y3 y4 y5 y6 y7 y8, LeO (stowagelaw01_OctetReads.j2 k y0 y1 y2 y3 y4 y5 y6 y7 y8) (stowagelaw01_OctetReads.j2 (k + 1) y0 y1 y2 y3 y4 y5 y6 y7 y8))
 | 0 => ⟨fun _ _ _ _ _ _ _ _ r h => by simp [stowagelaw01_OctetReads.j0] at h, fun _ _ _ _ _ _ _ _ r h => by simp [stowagelaw01_OctetReads.l0] at h, fun _ _ _ _ _ _ _ _ _ r h => by simp [stowagelaw01_OctetReads.j2] at h⟩
 | k + 1 => by
  obtain ⟨ih0, ih1, ih2⟩ := stowagelaw01_OctetReads.mono_l k
  refine ⟨?_, ?_, ?_⟩
  ·intro y0 y1 y2 y3 y4 y5 y6 y7
   unfold stowagelaw01_OctetReads.j0
   repeat' first
   | (with_reducible exact ih0 _ _ _ _ _ _ _ _)
   | (with_reducible exact ih1 _ _ _ _ _ _ _ _)
   | (with_reducible exact ih2 _ _ _ _ _ _ _ _ _)
   | (with_reducible exact octet_Reader_Bool.mono _ _ _ _)
   | (with_reducible exact octet_Reader_Int.mono _ _ _ _ _)
   | (with_reducible exact octet_Reader_Number.mono _ _ _ _ _)
   | (with_reducible exact octet_Reader_Text.mono _ _ _ _ _)
   | (with_reducible exact stowagelaw01_awake.mono _)
   | (with_reducible exact stowageref01_Reader_Bool.mono _ _ _ _)
   | (with_reducible exact stowageref01_Reader_Int.mono _ _ _ _ _)
   | (with_reducible exact stowageref01_Reader_Number.mono _ _ _ _ _)
   | (with_reducible exact stowageref01_Reader_Text.mono _ _ _ _ _)
   | (with_reducible exact LeO.refl _)
   | (with_reducible exact LeO.none _)
   | (with_reducible refine LeO.ite ?_ ?_)
   | (with_reducible refine LeO.bind ?_ (fun _ => ?_))
   | exact ih0 _ _ _ _ _ _ _ _
   | exact ih1 _ _ _ _ _ _ _ _
   | exact ih2 _ _ _ _ _ _ _ _ _
   | exact octet_Reader_Bool.mono _ _ _ _
   | exact octet_Reader_Int.mono _ _ _ _ _
   | exact octet_Reader_Number.mono _ _ _ _ _
   | exact octet_Reader_Text.mono _ _ _ _ _
   | exact stowagelaw01_awake.mono _
   | exact stowageref01_Reader_Bool.mono _ _ _ _
   | exact stowageref01_Reader_Int.mono _ _ _ _ _
   | exact stowageref01_Reader_Number.mono _ _ _ _ _
   | exact stowageref01_Reader_Text.mono _ _ _ _ _
   | exact LeO.none _
   | refine LeO.ite ?_ ?_
   | refine LeO.bind ?_ (fun _ => ?_)
  ·intro y0 y1 y2 y3 y4 y5 y6 y7
   unfold stowagelaw01_OctetReads.l0
   repeat' first
   | (with_reducible exact ih0 _ _ _ _ _ _ _ _)
   | (with_reducible exact ih1 _ _ _ _ _ _ _ _)
   | (with_reducible exact ih2 _ _ _ _ _ _ _ _ _)
   | (with_reducible exact octet_Reader_Bool.mono _ _ _ _)
   | (with_reducible exact octet_Reader_Int.mono _ _ _ _ _)
   | (with_reducible exact octet_Reader_Number.mono _ _ _ _ _)
   | (with_reducible exact octet_Reader_Text.mono _ _ _ _ _)
   | (with_reducible exact stowagelaw01_awake.mono _)
   | (with_reducible exact stowageref01_Reader_Bool.mono _ _ _ _)
   | (with_reducible exact stowageref01_Reader_Int.mono _ _ _ _ _)
   | (with_reducible exact stowageref01_Reader_Number.mono _ _ _ _ _)
   | (with_reducible exact stowageref01_Reader_Text.mono _ _ _ _ _)
   | (with_reducible exact LeO.refl _)
   | (with_reducible exact LeO.none _)
   | (with_reducible refine LeO.ite ?_ ?_)
   | (with_reducible refine LeO.bind ?_ (fun _ => ?_))
   | exact ih0 _ _ _ _ _ _ _ _
   | exact ih1 _ _ _ _ _ _ _ _
   | exact ih2 _ _ _ _ _ _ _ _ _
   | exact octet_Reader_Bool.mono _ _ _ _
   | exact octet_Reader_Int.mono _ _ _ _ _
   | exact octet_Reader_Number.mono _ _ _ _ _
   | exact octet_Reader_Text.mono _ _ _ _ _
   | exact stowagelaw01_awake.mono _
   | exact stowageref01_Reader_Bool.mono _ _ _ _
   | exact stowageref01_Reader_Int.mono _ _ _ _ _
   | exact stowageref01_Reader_Number.mono _ _ _ _ _
   | exact stowageref01_Reader_Text.mono _ _ _ _ _
   | exact LeO.none _
   | refine LeO.ite ?_ ?_
   | refine LeO.bind ?_ (fun _ => ?_)
  ·intro y0 y1 y2 y3 y4 y5 y6 y7 y8
   unfold stowagelaw01_OctetReads.j2
   repeat' first
   | (with_reducible exact ih0 _ _ _ _ _ _ _ _)
   | (with_reducible exact ih1 _ _ _ _ _ _ _ _)
   | (with_reducible exact ih2 _ _ _ _ _ _ _ _ _)
   | (with_reducible exact octet_Reader_Bool.mono _ _ _ _)
   | (with_reducible exact octet_Reader_Int.mono _ _ _ _ _)
   | (with_reducible exact octet_Reader_Number.mono _ _ _ _ _)
   | (with_reducible exact octet_Reader_Text.mono _ _ _ _ _)
   | (with_reducible exact stowagelaw01_awake.mono _)
   | (with_reducible exact stowageref01_Reader_Bool.mono _ _ _ _)
   | (with_reducible exact stowageref01_Reader_Int.mono _ _ _ _ _)
   | (with_reducible exact stowageref01_Reader_Number.mono _ _ _ _ _)
   | (with_reducible exact stowageref01_Reader_Text.mono _ _ _ _ _)
   | (with_reducible exact LeO.refl _)
   | (with_reducible exact LeO.none _)
   | (with_reducible refine LeO.ite ?_ ?_)
   | (with_reducible refine LeO.bind ?_ (fun _ => ?_))
   | exact ih0 _ _ _ _ _ _ _ _
   | exact ih1 _ _ _ _ _ _ _ _
   | exact ih2 _ _ _ _ _ _ _ _ _
   | exact octet_Reader_Bool.mono _ _ _ _
   | exact octet_Reader_Int.mono _ _ _ _ _
   | exact octet_Reader_Number.mono _ _ _ _ _
   | exact octet_Reader_Text.mono _ _ _ _ _
   | exact stowagelaw01_awake.mono _
   | exact stowageref01_Reader_Bool.mono _ _ _ _
   | exact stowageref01_Reader_Int.mono _ _ _ _ _
   | exact stowageref01_Reader_Number.mono _ _ _ _ _
   | exact stowageref01_Reader_Text.mono _ _ _ _ _
   | exact LeO.none _
   | refine LeO.ite ?_ ?_
   | refine LeO.bind ?_ (fun _ => ?_)
theorem stowagelaw01_OctetReads.mono : ∀ a0 a1 k, LeO (stowagelaw01_OctetReads.f k a0 a1) (stowagelaw01_OctetReads.f (k + 1) a0 a1) := by
 intro a0 a1 k
 obtain ⟨ih0, ih1, ih2⟩ := stowagelaw01_OctetReads.mono_l k
 unfold stowagelaw01_OctetReads.f
 repeat' first
   | (with_reducible exact ih0 _ _ _ _ _ _ _ _)
   | (with_reducible exact ih1 _ _ _ _ _ _ _ _)
   | (with_reducible exact ih2 _ _ _ _ _ _ _ _ _)
   | (with_reducible exact octet_Reader_Bool.mono _ _ _ _)
   | (with_reducible exact octet_Reader_Int.mono _ _ _ _ _)
   | (with_reducible exact octet_Reader_Number.mono _ _ _ _ _)
   | (with_reducible exact octet_Reader_Text.mono _ _ _ _ _)
   | (with_reducible exact stowagelaw01_awake.mono _)
   | (with_reducible exact stowageref01_Reader_Bool.mono _ _ _ _)
   | (with_reducible exact stowageref01_Reader_Int.mono _ _ _ _ _)
   | (with_reducible exact stowageref01_Reader_Number.mono _ _ _ _ _)
   | (with_reducible exact stowageref01_Reader_Text.mono _ _ _ _ _)
   | (with_reducible exact LeO.refl _)
   | (with_reducible exact LeO.none _)
   | (with_reducible refine LeO.ite ?_ ?_)
   | (with_reducible refine LeO.bind ?_ (fun _ => ?_))
   | exact ih0 _ _ _ _ _ _ _ _
   | exact ih1 _ _ _ _ _ _ _ _
   | exact ih2 _ _ _ _ _ _ _ _ _
   | exact octet_Reader_Bool.mono _ _ _ _
   | exact octet_Reader_Int.mono _ _ _ _ _
   | exact octet_Reader_Number.mono _ _ _ _ _
   | exact octet_Reader_Text.mono _ _ _ _ _
   | exact stowagelaw01_awake.mono _
   | exact stowageref01_Reader_Bool.mono _ _ _ _
   | exact stowageref01_Reader_Int.mono _ _ _ _ _
   | exact stowageref01_Reader_Number.mono _ _ _ _ _
   | exact stowageref01_Reader_Text.mono _ _ _ _ _
   | exact LeO.none _
   | refine LeO.ite ?_ ?_
   | refine LeO.bind ?_ (fun _ => ?_)
def stowagelaw01_OctetReads.T14 : Bool × List (List Nat × List Nat) := (true, [([], []), ([], []), ([], []), ([1, 2], [1, 2]), ([3], [3]), ([4], [4]), ([5], [5]), ([0, 6], [0, 6]), ([7], [7]), ([8], [8]), ([8], [8]), ([], []), ([11, 9, 7, 0, 1, 2, 3, 4, 5, 6, 7, 8, 9, 11], [9, 11]), ([10, 12, 0, 1, 2, 3, 4, 5, 6, 7, 8, 9, 10, 11, 12], [10])])
def stowagelaw01_OctetReads.B14 : List Nat := [0, 0, 0, 6, 14, 30, 62, 127, 255, 511, 511, 0, 3071, 8191]
theorem stowagelaw01_OctetReads.tab14 : rtab .any (opsOf Try.f9 14) = stowagelaw01_OctetReads.T14 := by kernel_rfl
theorem stowagelaw01_OctetReads.bits14 : waitsOk stowagelaw01_OctetReads.T14.2 stowagelaw01_OctetReads.B14 = true := by kernel_rfl
def stowagelaw01_OctetReads.T18 : Bool × List (List Nat × List Nat) := (true, [([], []), ([], []), ([], []), ([1, 2], [1, 2]), ([3], [3]), ([4], [4]), ([0, 5], [0, 5]), ([6], [6]), ([7], [7]), ([7], [7]), ([], []), ([10, 8, 6, 0, 1, 2, 3, 4, 5, 6, 7, 8, 10], [8, 10]), ([9, 11, 0, 1, 2, 3, 4, 5, 6, 7, 8, 9, 10, 11], [9])])
def stowagelaw01_OctetReads.B18 : List Nat := [0, 0, 0, 6, 14, 30, 63, 127, 255, 255, 0, 1535, 4095]
theorem stowagelaw01_OctetReads.tab18 : rtab .any (opsOf Try.f9 18) = stowagelaw01_OctetReads.T18 := by kernel_rfl
theorem stowagelaw01_OctetReads.bits18 : waitsOk stowagelaw01_OctetReads.T18.2 stowagelaw01_OctetReads.B18 = true := by kernel_rfl
def stowagelaw01_OctetReads.T22 : Bool × List (List Nat × List Nat) := (true, [([], []), ([], []), ([], []), ([1, 2], [1, 2]), ([3], [3]), ([4], [4]), ([0, 5], [0, 5]), ([6], [6]), ([7], [7]), ([7], [7]), ([], []), ([10, 8, 6, 0, 1, 2, 3, 4, 5, 6, 7, 8, 10], [8, 10]), ([9, 11, 0, 1, 2, 3, 4, 5, 6, 7, 8, 9, 10, 11], [9])])
def stowagelaw01_OctetReads.B22 : List Nat := [0, 0, 0, 6, 14, 30, 63, 127, 255, 255, 0, 1535, 4095]
theorem stowagelaw01_OctetReads.tab22 : rtab .any (opsOf Try.f9 22) = stowagelaw01_OctetReads.T22 := by kernel_rfl
theorem stowagelaw01_OctetReads.bits22 : waitsOk stowagelaw01_OctetReads.T22.2 stowagelaw01_OctetReads.B22 = true := by kernel_rfl
def stowagelaw01_OctetReads.T34 : Bool × List (List Nat × List Nat) := (true, [([], []), ([0], [0]), ([1], [1]), ([2], [2]), ([3, 2, 2], [2, 3]), ([2], [2]), ([5, 2], [2, 5]), ([4, 6, 2], [2, 4, 6]), ([2, 7], [2, 7]), ([8, 4], [8]), ([9], [9]), ([10, 9, 9], [9, 10]), ([9], [9]), ([12, 9], [9, 12]), ([11, 13, 9], [9, 11, 13]), ([9, 14], [9, 14])])
def stowagelaw01_OctetReads.B34 : List Nat := [0, 1, 3, 7, 15, 7, 39, 127, 255, 511, 1023, 2047, 1023, 5119, 16383, 32767]
theorem stowagelaw01_OctetReads.tab34 : rtab .any (opsOf Try.f9 34) = stowagelaw01_OctetReads.T34 := by kernel_rfl
theorem stowagelaw01_OctetReads.bits34 : waitsOk stowagelaw01_OctetReads.T34.2 stowagelaw01_OctetReads.B34 = true := by kernel_rfl
set_option maxHeartbeats 80000000 in
set_option maxRecDepth 100000 in
theorem stowagelaw01_OctetReads.calls (k : Nat) (a0 : ByteArray) (A1 : Option Addr) (c1 : Nat) (l1 : List (S63)) (r : Bool) (w : World) (hr1 : Kd.C k63 w A1 l1.length l1) (hc1 : l1.length ≤ c1) (h : f k a0 l1 = some r) :
  Calls Try.prog 9 #[.string a0, .slice A1 l1.length c1] w fun e w' => e = .returned (.bool r) ∧ Below w.heap.size w w' := by
 have hu61 := Try.underlying61
 have HR1 := qau hr1
 have HC1 := qau hc1
 clear hr1 hc1
 have HB := qau (Below.refl w.heap.size w)
 have H : ((octet_NewReader.f a0).bind fun bt183 => ((stowagelaw01_awake.f k).bind fun t188 => (if t188 = true then (j0 k l1 false bt183.1 bt183.2.1 bt183.2.2 a0 0 0) else (j0 k l1 true bt183.1 bt183.2.1 bt183.2.2 a0 0 0)))) = some r := h
 clear h
 replace H := Option.bind_eq_some_iff.mp H
 obtain ⟨⟨t183, t184, t185⟩, A30, H⟩ := H
 replace H : ((stowagelaw01_awake.f k).bind fun t188 => (if t188 = true then (j0 k l1 false t183 t184 t185 a0 0 0) else (j0 k l1 true t183 t184 t185 a0 0 0))) = some r := H
 have A3 := qau A30
 clear A30
 have HC4 := qau H
 clear H
 go_enter Try.func9, Try.ntmps9
 go_upto_region 3 with (first | ((with_reducible refine gate_callee (f := 28) rfl ?_); refine goesL_ (some 20) rfl rfl Try.func28 (by kernel_rfl) rfl #[.string a0] rfl (by (try simp only [qar, qas, qat]); first | done | rfl) ?_; (with_reducible refine (octet_NewReader.calls a0 t183 t184 t185 w _ ?side1 A3.out).mono ?_); (case side1 => repeat (first | (with_reducible first | exact HB.out | apply qak | apply qai | apply qaj) | exact HB.out)); rintro e w5 ⟨g186, rfl, hi, hb, hb2⟩; refine ⟨_, rfl, ?_⟩; have n0_ := qau (hb); have n1_ := qau (hi); clear HB; have HB := n0_; have qbg := n1_; clear n0_ n1_; (try clear hb); (try clear hk); (try clear hi)) | ((with_reducible refine gate_dst (N := 6) rfl ?_); refine box_event ?hg (N := 6) ?hd (cs := #[.string (⟨#[]⟩ : ByteArray), .int .i64 0, .int .i64 0]) (t := 61) ?hr ?_; (case hd => rfl); (case hg => rfl); (case hr => first | (go_simp; done) | (go_simp; rfl)); intro qbn hg w6 hbox hb; have n0_ := qau (qay (by repeat (first | (with_reducible first | exact qbg.out | apply qax | apply qba | apply qaz | apply qbd | apply qbe | apply qbf) | exact qbg.out)) hb); have n1_ := qau (below_step (by repeat (first | (with_reducible first | exact HB.out | apply qak | apply qai | apply qaj | refine qah ?_ (qbc qbg.out)) | exact HB.out)) hb); have n2_ := qau (hbox); have n3_ := qau ((by rw [hg]; exact (below_size (by repeat (first | (with_reducible first | exact HB.out | apply qak | apply qai | apply qaj | refine qah ?_ (qbc qbg.out)) | exact HB.out))) : w.heap.size ≤ qbn)); have n4_ := qau ((by rw [hg]; exact (below_size (by repeat (first | (with_reducible first | exact HB.out | apply qak | apply qai | apply qaj | refine qah ?_ (qbc qbg.out)) | exact HB.out))) : w.heap.size ≤ qbn)); have n5_ := qau ((by rw [hg]; exact qap (IsS83.lt (show IsS83 w _ g186 t183 t184 t185 from by repeat (first | (with_reducible first | exact qbg.out | apply qax | apply qba | apply qaz | apply qbd | apply qbe | apply qbf) | exact qbg.out))) : g186 ≠ qbn)); have n6_ := qau ((by rw [hg]; exact qaq (IsS83.lt (show IsS83 w _ g186 t183 t184 t185 from by repeat (first | (with_reducible first | exact qbg.out | apply qax | apply qba | apply qaz | apply qbd | apply qbe | apply qbf) | exact qbg.out))) : qbn ≠ g186)); clear qbg; clear HB; have qbg := n0_; have HB := n1_; have qbk := n2_; have qjz := n3_; have qbv := n4_; have qbo := n5_; have qcf := n6_; clear n0_ n1_ n2_ n3_ n4_ n5_ n6_; clear hb hbox hg; have hnb7 := qcf.out; have hnc7 := qbo.out; have qec : w6.cell? ⟨qbn, 0, none⟩ = some (.string (⟨#[]⟩ : ByteArray)) := (qal qbk.out 0).trans rfl; have qed : w6.cell? ⟨qbn, 1, none⟩ = some (.int .i64 0) := (qal qbk.out 1).trans rfl; have qee : w6.cell? ⟨qbn, 2, none⟩ = some (.int .i64 0) := (qal qbk.out 2).trans rfl; have qef := qam qbk.out 0; have qeg := qam qbk.out 1; have qeh := qam qbk.out 2))
 (try simp only [Act.put, qaa, qab, qac])
 go_cut [28] (fun v28 wc => ∃ (kq : Nat) (qdy : Bool), v28 = .bool qdy ∧ Aside0 (j0 kq l1 qdy t183 t184 t185 a0 0 0 = some r) ∧ Aside0 (kq ≤ k) ∧ Aside0 (wc.heap[qbn]? = some (.cells #[.string a0, .int .i64 0, .int .i64 0] 61 (0, 0))) ∧ Aside0 (IsS83 w wc g186 t183 t184 t185) ∧ Aside0 (Below w.heap.size w wc))
 case first =>
  have H := HC4.out
  clear HC4
  replace H := Option.bind_eq_some_iff.mp H
  obtain ⟨t188, A90, H⟩ := H
  replace H : (if t188 = true then (j0 k l1 false t183 t184 t185 a0 0 0) else (j0 k l1 true t183 t184 t185 a0 0 0)) = some r := H
  have A9 := qau A90
  clear A90
  by_cases c10 : t188 = true
  ·subst c10
   have H1 : (j0 k l1 false t183 t184 t185 a0 0 0) = some r := by rw [if_pos rfl] at H; exact H
   clear H
   have H := H1
   clear H1
   have H' := qau H
   clear H
   go_wp2_with (first | ((with_reducible refine gate_callee (f := 12) rfl ?_); refine goesL_ (some 23) rfl rfl Try.func12 (by kernel_rfl) rfl #[] rfl (by (try simp only [qar, qas, qat]); first | done | rfl) ?_; (with_reducible refine (stowagelaw01_awake.calls k  true _ A9.out).mono ?_); rintro e w11 ⟨rfl, hb⟩; refine ⟨_, rfl, ?_⟩; have n0_ := qau (qay (show IsS83 w (((w6.setCell ⟨qbn, 0, none⟩ (.string a0)).setCell ⟨qbn, 1, none⟩ (.int .i64 0)).setCell ⟨qbn, 2, none⟩ (.int .i64 0)) g186 t183 t184 t185 from by repeat (first | (with_reducible first | exact qbg.out | apply qax | apply qba | apply qaz | apply qbd | apply qbe | apply qbf | refine qbb ?_ qbo.out _) | exact qbg.out)) hb); have n1_ := qau (blk_below (g := qbn) (o := .cells #[.string a0, .int .i64 0, .int .i64 0] 61 (0, 0)) (by (with_reducible repeat (first | refine qae ?_ _ | refine qag ?_ | refine qaf ?_ _)); refine blk_put (cs := #[.string a0, .int .i64 0, .int .i64 0]) ?_ 2 _ rfl; (with_reducible repeat (first | refine qae ?_ _ | refine qag ?_ | refine qaf ?_ _)); refine blk_put (cs := #[.string a0, .int .i64 0, .int .i64 0]) ?_ 1 _ rfl; (with_reducible repeat (first | refine qae ?_ _ | refine qag ?_ | refine qaf ?_ _)); refine blk_put (cs := #[.string (⟨#[]⟩ : ByteArray), .int .i64 0, .int .i64 0]) ?_ 0 _ rfl; (with_reducible repeat (first | refine qae ?_ _ | refine qag ?_ | refine qaf ?_ _)); exact qbk.out) hb); have n2_ := qau (below_step (by repeat (first | (with_reducible first | exact HB.out | apply qak | apply qai | apply qaj | refine qah ?_ (qbc qbg.out) | refine qah ?_ qbv.out) | exact HB.out)) hb); clear qbg; clear qbk; clear HB; have qbg := n0_; have qbk := n1_; have HB := n2_; clear n0_ n1_ n2_; (try clear hb); (try clear hk); (try clear hi)))
   go_meet
   case rel => exact ⟨_, (false), (by first | rfl | (simp; done) | (simp [*]; done)), H', ⟨by first | omega | exact Nat.le_refl _⟩, ⟨by (with_reducible repeat (first | refine qae ?_ _ | refine qag ?_ | refine qaf ?_ _)); exact qbk.out⟩, ⟨by repeat (first | (with_reducible first | exact qbg.out | apply qax | apply qba | apply qaz | apply qbd | apply qbe | apply qbf | refine qbb ?_ qbo.out _) | exact qbg.out)⟩, ⟨by repeat (first | (with_reducible first | exact HB.out | apply qak | apply qai | apply qaj | refine qah ?_ (qbc qbg.out) | refine qah ?_ qbv.out) | exact HB.out)⟩⟩
  ·replace c10 := Bool.eq_false_iff.mpr c10
   subst c10
   have H1 : (j0 k l1 true t183 t184 t185 a0 0 0) = some r := by rw [if_neg (show ¬ (false = true) by decide)] at H; exact H
   clear H
   have H := H1
   clear H1
   have H' := qau H
   clear H
   go_wp2_with (first | ((with_reducible refine gate_callee (f := 12) rfl ?_); refine goesL_ (some 23) rfl rfl Try.func12 (by kernel_rfl) rfl #[] rfl (by (try simp only [qar, qas, qat]); first | done | rfl) ?_; (with_reducible refine (stowagelaw01_awake.calls k  false _ A9.out).mono ?_); rintro e w12 ⟨rfl, hb⟩; refine ⟨_, rfl, ?_⟩; have n0_ := qau (qay (show IsS83 w (((w6.setCell ⟨qbn, 0, none⟩ (.string a0)).setCell ⟨qbn, 1, none⟩ (.int .i64 0)).setCell ⟨qbn, 2, none⟩ (.int .i64 0)) g186 t183 t184 t185 from by repeat (first | (with_reducible first | exact qbg.out | apply qax | apply qba | apply qaz | apply qbd | apply qbe | apply qbf | refine qbb ?_ qbo.out _) | exact qbg.out)) hb); have n1_ := qau (blk_below (g := qbn) (o := .cells #[.string a0, .int .i64 0, .int .i64 0] 61 (0, 0)) (by (with_reducible repeat (first | refine qae ?_ _ | refine qag ?_ | refine qaf ?_ _)); refine blk_put (cs := #[.string a0, .int .i64 0, .int .i64 0]) ?_ 2 _ rfl; (with_reducible repeat (first | refine qae ?_ _ | refine qag ?_ | refine qaf ?_ _)); refine blk_put (cs := #[.string a0, .int .i64 0, .int .i64 0]) ?_ 1 _ rfl; (with_reducible repeat (first | refine qae ?_ _ | refine qag ?_ | refine qaf ?_ _)); refine blk_put (cs := #[.string (⟨#[]⟩ : ByteArray), .int .i64 0, .int .i64 0]) ?_ 0 _ rfl; (with_reducible repeat (first | refine qae ?_ _ | refine qag ?_ | refine qaf ?_ _)); exact qbk.out) hb); have n2_ := qau (below_step (by repeat (first | (with_reducible first | exact HB.out | apply qak | apply qai | apply qaj | refine qah ?_ (qbc qbg.out) | refine qah ?_ qbv.out) | exact HB.out)) hb); clear qbg; clear qbk; clear HB; have qbg := n0_; have qbk := n1_; have HB := n2_; clear n0_ n1_ n2_; (try clear hb); (try clear hk); (try clear hi)))
   go_meet
   case rel => exact ⟨_, (true), (by first | rfl | (simp; done) | (simp [*]; done)), H', ⟨by first | omega | exact Nat.le_refl _⟩, ⟨by (with_reducible repeat (first | refine qae ?_ _ | refine qag ?_ | refine qaf ?_ _)); exact qbk.out⟩, ⟨by repeat (first | (with_reducible first | exact qbg.out | apply qax | apply qba | apply qaz | apply qbd | apply qbe | apply qbf | refine qbb ?_ qbo.out _) | exact qbg.out)⟩, ⟨by repeat (first | (with_reducible first | exact HB.out | apply qak | apply qai | apply qaj | refine qah ?_ (qbc qbg.out) | refine qah ?_ qbv.out) | exact HB.out)⟩⟩
 case rest =>
  clear HC4
  try clear c1
  try clear c2
  try clear p2
  try clear c7
  try clear c9
  try clear c10
  try clear c12
  try clear qec
  try clear qed
  try clear qee
  try clear qef
  try clear qeg
  try clear qeh
  obtain ⟨kq, qdy, rfl, HA, HJ3, qbk, qbg, HB⟩ := hcut
  cases kq with
  | zero => exact absurd HA.out (by simp [j0])
  | succ kj3 =>
   have H := HA.out
   clear HA
   simp only [j0] at H
   by_cases c13 : qdy = true
   ·subst c13
    have H1 : (some false) = some r := by rw [if_pos rfl] at H; exact H
    clear H
    have H := H1
    clear H1
    obtain rfl := Option.some.inj H
    go_wp2
    go_ret
    exact ⟨by first | rfl | (simp [errW_none, errW_some] <;> rfl) | (simp [*, errW_none, errW_some] <;> rfl), by repeat (first | (with_reducible first | exact HB.out | apply qak | apply qai | apply qaj | refine qah ?_ (qbc qbg.out) | refine qah ?_ qbv.out) | exact HB.out)⟩
   ·focus
    replace c13 := Bool.eq_false_iff.mpr c13
    subst c13
    have H1 : (l0 kj3 l1 0 t183 t184 t185 a0 0 0) = some r := by rw [if_neg (show ¬ (false = true) by decide)] at H; exact H
    clear H
    have H := H1
    clear H1
    have H' := qau H
    clear H
    go_wp2
    go_loopg [7] kj3 (fun kq v7 w' => ∃ (qbr : Int) (qbw : ByteArray) (qbx : Int) (qby : Int) (qbj : ByteArray) (qbi : Int) (qbh : Int), v7 = .int .i64 qbr ∧ Aside0 (l0 kq l1 qbr qbw qbx qby qbj qbi qbh = some r) ∧ Aside0 (kq ≤ kj3) ∧ Aside0 (w'.heap[qbn]? = some (.cells #[.string qbj, .int .i64 qbi, .int .i64 qbh] 61 (0, 0))) ∧ Aside0 (IsS83 w w' g186 qbw qbx qby) ∧ Aside0 (Below w.heap.size w w'))
    case atStart => exact ⟨(0), (t183), (t184), (t185), (a0), (0), (0), (by first | rfl | (simp; done) | (simp [*]; done)), H', ⟨Nat.le_refl _⟩, ⟨by (with_reducible repeat (first | refine qae ?_ _ | refine qag ?_ | refine qaf ?_ _)); exact qbk.out⟩, ⟨by repeat (first | (with_reducible first | exact qbg.out | apply qax | apply qba | apply qaz | apply qbd | apply qbe | apply qbf | refine qbb ?_ qbo.out _) | exact qbg.out)⟩, ⟨by repeat (first | (with_reducible first | exact HB.out | apply qak | apply qai | apply qaj | refine qah ?_ (qbc qbg.out) | refine qah ?_ qbv.out) | exact HB.out)⟩⟩
    case round =>
     clear H'
     try clear c1
     try clear c2
     try clear p2
     try clear p6
     try clear c7
     try clear c9
     try clear c10
     try clear c12
     try clear c13
     try clear qec
     try clear qed
     try clear qee
     try clear qef
     try clear qeg
     try clear qeh
     try clear p2
     obtain ⟨qbr, qbw, qbx, qby, qbj, qbi, qbh, rfl, HA, HK2, qbk, qbg, HB⟩ := hrel
     cases gk with
     | zero => exact absurd HA.out (by simp [l0])
     | succ k2 =>
      have H := HA.out
      clear HA
      simp only [l0] at H
      by_cases c14 : qbr < (l1.length : Int)
      ·focus
       rw [if_pos c14] at H
       have c14b0 : decide (qbr < (l1.length : Int)) = true := decide_eq_true c14
       clear c14
       by_cases c15 : 0 ≤ qbr
       ·focus
        rw [if_pos c15] at H
        have c15b0 : decide (0 ≤ qbr) = true := decide_eq_true c15
        clear c15
        have HC16 := qau H
        clear H
        have hnb17 := qcf.out
        have hnc17 := qbo.out
        have qip : wr.cell? ⟨qbn, 0, none⟩ = some (.string qbj) := (qal qbk.out 0).trans rfl
        have qiq : wr.cell? ⟨qbn, 1, none⟩ = some (.int .i64 qbi) := (qal qbk.out 1).trans rfl
        have qir : wr.cell? ⟨qbn, 2, none⟩ = some (.int .i64 qbh) := (qal qbk.out 2).trans rfl
        have qis := qam qbk.out 0
        have qit := qam qbk.out 1
        have qiu := qam qbk.out 2
        go_upto_block 2 with (first | ((with_reducible refine gate_dst (N := 8) rfl ?_); refine box_event ?hg (N := 8) ?hd (cs := #[.string (⟨#[]⟩ : ByteArray), .int .i64 0, .int .i64 0]) (t := 61) ?hr ?_; (case hd => rfl); (case hg => rfl); (case hr => first | (go_simp; done) | (go_simp; rfl)); intro qbl hg w19 hbox hb; have n0_ := qau (blk_below (g := qbn) (o := .cells #[.string qbj, .int .i64 qbi, .int .i64 qbh] 61 (0, 0)) (by (with_reducible repeat (first | refine qae ?_ _ | refine qag ?_ | refine qaf ?_ _)); exact qbk.out) hb); have n1_ := qau (qay (by repeat (first | (with_reducible first | exact qbg.out | apply qax | apply qba | apply qaz | apply qbd | apply qbe | apply qbf | refine qbb ?_ qbo.out _) | exact qbg.out)) hb); have n2_ := qau (below_step (by repeat (first | (with_reducible first | exact HB.out | apply qak | apply qai | apply qaj | refine qah ?_ (qbc qbg.out) | refine qah ?_ qbv.out) | exact HB.out)) hb); have n3_ := qau (hbox); have n4_ := qau ((by rw [hg]; exact (below_size (by repeat (first | (with_reducible first | exact HB.out | apply qak | apply qai | apply qaj | refine qah ?_ (qbc qbg.out) | refine qah ?_ qbv.out) | exact HB.out))) : w.heap.size ≤ qbl)); have n5_ := qau ((by rw [hg]; exact (below_size (by repeat (first | (with_reducible first | exact HB.out | apply qak | apply qai | apply qaj | refine qah ?_ (qbc qbg.out) | refine qah ?_ qbv.out) | exact HB.out))) : w.heap.size ≤ qbl)); have n6_ := qau ((by rw [hg]; exact qap (blk_lt (g := qbn) (o := .cells #[.string qbj, .int .i64 qbi, .int .i64 qbh] 61 (0, 0)) (by (with_reducible repeat (first | refine qae ?_ _ | refine qag ?_ | refine qaf ?_ _)); exact qbk.out)) : qbn ≠ qbl)); have n7_ := qau ((by rw [hg]; exact qaq (blk_lt (g := qbn) (o := .cells #[.string qbj, .int .i64 qbi, .int .i64 qbh] 61 (0, 0)) (by (with_reducible repeat (first | refine qae ?_ _ | refine qag ?_ | refine qaf ?_ _)); exact qbk.out)) : qbl ≠ qbn)); have n8_ := qau ((by rw [hg]; exact qap (IsS83.lt (show IsS83 w _ g186 qbw qbx qby from by repeat (first | (with_reducible first | exact qbg.out | apply qax | apply qba | apply qaz | apply qbd | apply qbe | apply qbf | refine qbb ?_ qbo.out _) | exact qbg.out))) : g186 ≠ qbl)); have n9_ := qau ((by rw [hg]; exact qaq (IsS83.lt (show IsS83 w _ g186 qbw qbx qby from by repeat (first | (with_reducible first | exact qbg.out | apply qax | apply qba | apply qaz | apply qbd | apply qbe | apply qbf | refine qbb ?_ qbo.out _) | exact qbg.out))) : qbl ≠ g186)); clear qbk; clear qbg; clear HB; have qbk := n0_; have qbg := n1_; have HB := n2_; have qbm := n3_; have qdb := n4_; have qbz := n5_; have qbu := n6_; have qcd := n7_; have qbp := n8_; have qce := n9_; clear n0_ n1_ n2_ n3_ n4_ n5_ n6_ n7_ n8_ n9_; clear hb hbox hg; have hnb20 := qcd.out; have hnc20 := qbu.out; have hnb21 := qce.out; have hnc21 := qbp.out; have qiv : w19.cell? ⟨qbl, 0, none⟩ = some (.string (⟨#[]⟩ : ByteArray)) := (qal qbm.out 0).trans rfl; have qiw : w19.cell? ⟨qbl, 1, none⟩ = some (.int .i64 0) := (qal qbm.out 1).trans rfl; have qix : w19.cell? ⟨qbl, 2, none⟩ = some (.int .i64 0) := (qal qbm.out 2).trans rfl; have qiy := qam qbm.out 0; have qiz := qam qbm.out 1; have qja := qam qbm.out 2; have p190 : 0 ≤ (qbr : Int) := of_decide_eq_true (by first | (with_reducible assumption) | assumption); have q190 : qbr < (l1.length : Int) := of_decide_eq_true (by first | (with_reducible assumption) | assumption); obtain ⟨ad190, e190, hx190_0, hx190_1⟩ := at_T63 HR1.out qbr p190 q190; cases e190; have hn190_0 : ad190.block ≠ qbl := qap (qao (by have := qad _ _ hx190_0; first | rwa [qav] at this | exact this) qdb.out); have hn190_1 : ad190.block ≠ qbl := qap (qao (by have := qad _ _ hx190_0; first | rwa [qav] at this | exact this) qdb.out); have hn190_2 : ad190.block ≠ qbl := qap (qao (by have := qad _ _ hx190_0; first | rwa [qav] at this | exact this) qdb.out); replace hx190_0 := (HB.out.cell (qad w _ hx190_0)).trans hx190_0; replace hx190_1 := (HB.out.cell (qad w _ hx190_1)).trans hx190_1; replace hx190_0 := (qan (p := ⟨qbl, 0, none⟩) (by first | (rw [qav]; exact hn190_0) | (show (Addr.add _ _).block ≠ _; rw [qav]; exact hn190_0) | exact hn190_0) (.string qbj)).trans hx190_0; replace hx190_1 := (qan (p := ⟨qbl, 0, none⟩) (by first | (rw [qav]; exact hn190_0) | (show (Addr.add _ _).block ≠ _; rw [qav]; exact hn190_0) | exact hn190_0) (.string qbj)).trans hx190_1; replace hx190_0 := (qan (p := ⟨qbl, 1, none⟩) (by first | (rw [qav]; exact hn190_1) | (show (Addr.add _ _).block ≠ _; rw [qav]; exact hn190_1) | exact hn190_1) (.int .i64 qbi)).trans hx190_0; replace hx190_1 := (qan (p := ⟨qbl, 1, none⟩) (by first | (rw [qav]; exact hn190_1) | (show (Addr.add _ _).block ≠ _; rw [qav]; exact hn190_1) | exact hn190_1) (.int .i64 qbi)).trans hx190_1; replace hx190_0 := (qan (p := ⟨qbl, 2, none⟩) (by first | (rw [qav]; exact hn190_2) | (show (Addr.add _ _).block ≠ _; rw [qav]; exact hn190_2) | exact hn190_2) (.int .i64 qbh)).trans hx190_0; replace hx190_1 := (qan (p := ⟨qbl, 2, none⟩) (by first | (rw [qav]; exact hn190_2) | (show (Addr.add _ _).block ≠ _; rw [qav]; exact hn190_2) | exact hn190_2) (.int .i64 qbh)).trans hx190_1; clear hn190_0; clear hn190_1; clear hn190_2; replace p190 := eq_true p190; replace q190 := eq_true q190))
        (try simp only [Act.put, qaa, qab, qac])
        go_cut [9] (fun v9 wc => ∃ (kq : Nat) (qdz : Bool) (qcm : ByteArray) (qcn : Int) (qco : Int) (qbs : ByteArray) (qbq : Int) (qbt : Int), v9 = .bool qdz ∧ Aside0 (j2 kq l1 qbr qdz qcm qcn qco qbs qbq qbt = some r) ∧ Aside0 (kq ≤ k2) ∧ Aside0 (wc.heap[qbn]? = some (.cells #[.string qbj, .int .i64 qbi, .int .i64 qbh] 61 (0, 0))) ∧ Aside0 (wc.heap[qbl]? = some (.cells #[.string qbs, .int .i64 qbq, .int .i64 qbt] 61 (0, 0))) ∧ Aside0 (IsS83 w wc g186 qcm qcn qco) ∧ Aside0 (Below w.heap.size w wc))
        case first =>
         have H := HC16.out
         clear HC16
         by_cases c23 : ((rd_T63 l1 qbr).f0) = 0
         ·focus
          rw [if_pos c23] at H
          have c23b0 : (((rd_T63 l1 qbr).f0) == 0) = true := beq_iff_eq.mpr c23
          have c23b1 : (((rd_T63 l1 qbr).f0) != 0) = false := bne_eq_false_iff_eq.mpr c23
          clear c23
          (first | rw [c23b0] | (simp only [i64_w, i32_w]; rw [c23b0]) | skip)
          replace H := Option.bind_eq_some_iff.mp H
          obtain ⟨⟨t192, t193, t194, t195⟩, A240, H⟩ := H
          replace H : ((octet_Reader_Number.f k2 qbw qbx qby (IntKind.u64.wrap ((rd_T63 l1 qbr).f1))).bind fun bt198 => (j2 k2 l1 qbr (bt198.1 == t195) bt198.2.1 bt198.2.2.1 bt198.2.2.2 t192 t193 t194)) = some r := H
          have A24 := qau A240
          clear A240
          replace H := Option.bind_eq_some_iff.mp H
          obtain ⟨⟨t198, t199, t200, t201⟩, A250, H⟩ := H
          replace H : (j2 k2 l1 qbr (t198 == t195) t199 t200 t201 t192 t193 t194) = some r := H
          have A25 := qau A250
          clear A250
          have H' := qau H
          clear H
          try go_wp2
          have n0_ : Aside0 ((((w19.setCell ⟨qbl, 0, none⟩ (.string qbj)).setCell ⟨qbl, 1, none⟩ (.int .i64 qbi)).setCell ⟨qbl, 2, none⟩ (.int .i64 qbh)).heap[qbn]? = some (.cells #[.string qbj, .int .i64 qbi, .int .i64 qbh] 61 (0, 0))) := ⟨by (with_reducible repeat (first | refine qae ?_ _ | refine qag ?_ | refine qaf ?_ _)); refine blk_far ?_ qbu.out _; (with_reducible repeat (first | refine qae ?_ _ | refine qag ?_ | refine qaf ?_ _)); refine blk_far ?_ qbu.out _; (with_reducible repeat (first | refine qae ?_ _ | refine qag ?_ | refine qaf ?_ _)); refine blk_far ?_ qbu.out _; (with_reducible repeat (first | refine qae ?_ _ | refine qag ?_ | refine qaf ?_ _)); exact qbk.out⟩
          have n1_ : Aside0 ((((w19.setCell ⟨qbl, 0, none⟩ (.string qbj)).setCell ⟨qbl, 1, none⟩ (.int .i64 qbi)).setCell ⟨qbl, 2, none⟩ (.int .i64 qbh)).heap[qbl]? = some (.cells #[.string qbj, .int .i64 qbi, .int .i64 qbh] 61 (0, 0))) := ⟨by (with_reducible repeat (first | refine qae ?_ _ | refine qag ?_ | refine qaf ?_ _)); refine blk_put (cs := #[.string qbj, .int .i64 qbi, .int .i64 0]) ?_ 2 _ rfl; (with_reducible repeat (first | refine qae ?_ _ | refine qag ?_ | refine qaf ?_ _)); refine blk_put (cs := #[.string qbj, .int .i64 0, .int .i64 0]) ?_ 1 _ rfl; (with_reducible repeat (first | refine qae ?_ _ | refine qag ?_ | refine qaf ?_ _)); refine blk_put (cs := #[.string (⟨#[]⟩ : ByteArray), .int .i64 0, .int .i64 0]) ?_ 0 _ rfl; (with_reducible repeat (first | refine qae ?_ _ | refine qag ?_ | refine qaf ?_ _)); exact qbm.out⟩
          have n2_ : Aside0 (IsS83 w (((w19.setCell ⟨qbl, 0, none⟩ (.string qbj)).setCell ⟨qbl, 1, none⟩ (.int .i64 qbi)).setCell ⟨qbl, 2, none⟩ (.int .i64 qbh)) g186 qbw qbx qby) := ⟨by repeat (first | (with_reducible first | exact qbg.out | apply qax | apply qba | apply qaz | apply qbd | apply qbe | apply qbf | refine qbb ?_ qbo.out _ | refine qbb ?_ qbp.out _) | exact qbg.out)⟩
          have n3_ : Aside0 (Below w.heap.size w (((w19.setCell ⟨qbl, 0, none⟩ (.string qbj)).setCell ⟨qbl, 1, none⟩ (.int .i64 qbi)).setCell ⟨qbl, 2, none⟩ (.int .i64 qbh))) := ⟨by repeat (first | (with_reducible first | exact HB.out | apply qak | apply qai | apply qaj | refine qah ?_ (qbc qbg.out) | refine qah ?_ qbv.out | refine qah ?_ qbz.out) | exact HB.out)⟩
          (try clear qbk)
          (try clear qbm)
          (try clear qbg)
          (try clear HB)
          generalize (((w19.setCell ⟨qbl, 0, none⟩ (.string qbj)).setCell ⟨qbl, 1, none⟩ (.int .i64 qbi)).setCell ⟨qbl, 2, none⟩ (.int .i64 qbh)) = w26 at n0_ n1_ n2_ n3_ ⊢
          have qbk := n0_
          have qbm := n1_
          have qbg := n2_
          have HB := n3_
          clear n0_ n1_ n2_ n3_
          have n0_ := qau (qag qbk.out)
          have n1_ := qau (qag qbm.out)
          have n2_ := qau (qaz qbg.out)
          have n3_ := qau (qaj HB.out)
          clear qbk
          clear qbm
          clear qbg
          clear HB
          have qbk := n0_
          have qbm := n1_
          have qbg := n2_
          have HB := n3_
          clear n0_ n1_ n2_ n3_
          have p191 : 0 ≤ (qbr : Int) := of_decide_eq_true (by first | (with_reducible assumption) | assumption)
          have q191 : qbr < (l1.length : Int) := of_decide_eq_true (by first | (with_reducible assumption) | assumption)
          obtain ⟨ad191, e191, hx191_0, hx191_1⟩ := at_T63 HR1.out qbr p191 q191
          have hw191_1 := hx191_1
          have hw191_0 := hx191_0
          obtain rfl : ad190 = ad191 := (by injection e191)
          replace hx191_0 := (HB.out.cell (qad w _ hx191_0)).trans hx191_0
          replace hx191_1 := (HB.out.cell (qad w _ hx191_1)).trans hx191_1
          replace p191 := eq_true p191
          replace q191 := eq_true q191
          refine start_ (n := 14) (S := fun w' => w'.cell? ⟨qbn, 0, none⟩ = some (.string qbj) ∧ w'.cell? ⟨qbn, 1, none⟩ = some (.int .i64 qbi) ∧ w'.cell? ⟨qbn, 2, none⟩ = some (.int .i64 qbh) ∧ w'.cell? (ad190.add ((qbr).toNat * 2)) = some (.int .i64 ((rd_T63 l1 qbr).f0)) ∧ w'.cell? ⟨(ad190.add ((qbr).toNat * 2)).block, (ad190.add ((qbr).toNat * 2)).off + 1, none⟩ = some (.int .i64 ((rd_T63 l1 qbr).f1))) (ds := []) sq0 (by kernel_rfl) rfl rfl ⟨(qal qbk.out 0).trans rfl, (qal qbk.out 1).trans rfl, (qal qbk.out 2).trans rfl, ((HB.out.cell (qad w _ hw191_0)).trans hw191_0), ((HB.out.cell (qad w _ hw191_1)).trans hw191_1)⟩ (fun hHeld => ?_); refine with_tabW tab14 bits14 (fun HT_ HW_ => ?_)
          generalize w26.drew = w27 at qbk qbm qbg HB hx191_0 hx191_1 hHeld ⊢
          refine pure_ (i := 1) (N := some 52) (v := ?_) (a' := ?_) sq1 rfl rfl (any_of HT_.out (by kernel_rfl)) (fun _ _ _ h => h) (Or.inl ⟨by rfl, ?_⟩) ?_ ?_
          rotate_left
          ·intro w'
           go_simp
           with_reducible rfl
          rotate_left
          ·simp only [Act.put, qaa, qab, qac, i64_w, i32_w]
           rfl
          refine pure_ (i := 2) (N := some 53) (v := ?_) (a' := ?_) sq2 rfl rfl (any_of HT_.out (by kernel_rfl)) (fun _ _ _ h => h) (Or.inl ⟨by rfl, ?_⟩) ?_ ?_
          rotate_left
          ·intro w'
           go_simp
           with_reducible rfl
          rotate_left
          ·simp only [Act.put, qaa, qab, qac, i64_w, i32_w]
           rfl
          refine pure_ (i := 3) (N := some 54) (v := ?_) (a' := ?_) sq3 rfl rfl (any_of HT_.out (by kernel_rfl)) (fun _ _ _ h => h) (Or.inl ⟨by rfl, ?_⟩) ?_ ?_
          rotate_left
          ·intro w'
           go_simp
           with_reducible rfl
          rotate_left
          ·simp only [Act.put, qaa, qab, qac, i64_w, i32_w]
           rfl
          refine pure_ (i := 4) (N := some 55) (v := ?_) (a' := ?_) sq4 rfl rfl (any_of HT_.out (by kernel_rfl)) (fun _ _ _ h => h) (Or.inl ⟨by rfl, ?_⟩) ?_ ?_
          rotate_left
          ·intro w'
           go_simp
           with_reducible rfl
          rotate_left
          ·simp only [Act.put, qaa, qab, qac, i64_w, i32_w]
           rfl
          refine take_ (i := 0) (N := some 51) (v := ?_) (a' := ?_) sq5 rfl rfl (take_ofW HT_.out HW_.out (by kernel_rfl)) (fun _ _ _ h => h) (Or.inl ⟨by rfl, ?_⟩) hHeld ?_ ?_
          rotate_left
          ·rintro w' ⟨s0, s1, s2, s3, s4⟩
           go_simp
           with_reducible rfl
          rotate_left
          ·simp only [Act.put, qaa, qab, qac, i64_w, i32_w]
           rfl
          refine take_ (i := 5) (N := some 56) (v := ?_) (a' := ?_) sq6 rfl rfl (take_ofW HT_.out HW_.out (by kernel_rfl)) (fun _ _ _ h => h) (Or.inl ⟨by rfl, ?_⟩) hHeld ?_ ?_
          rotate_left
          ·rintro w' ⟨s0, s1, s2, s3, s4⟩
           go_simp
           with_reducible rfl
          rotate_left
          ·simp only [Act.put, qaa, qab, qac, i64_w, i32_w]
           rfl
          refine pure_ (i := 6) (N := some 57) (v := ?_) (a' := ?_) sq7 rfl rfl (any_of HT_.out (by kernel_rfl)) (fun _ _ _ h => h) (Or.inl ⟨by rfl, ?_⟩) ?_ ?_
          rotate_left
          ·intro w'
           go_simp
           with_reducible rfl
          rotate_left
          ·simp only [Act.put, qaa, qab, qac, i64_w, i32_w]
           rfl
          refine join_ (σ := Nat) 2 sq8 (fun s_ => [(58, .tuple #[.agg #[.string t192, .int .i64 t193, .int .i64 t194], .int .u64 t195]), (10, .pointer (some ⟨s_, 0, none⟩)), (50, .tuple #[.agg #[.string t192, .int .i64 t193, .int .i64 t194], .int .u64 t195]), (59, .agg #[.string t192, .int .i64 t193, .int .i64 t194]), (60, .int .u64 t195)]) (fun s_ w' => (w'.cell? ⟨qbn, 0, none⟩ = some (.string qbj) ∧ w'.cell? ⟨qbn, 1, none⟩ = some (.int .i64 qbi) ∧ w'.cell? ⟨qbn, 2, none⟩ = some (.int .i64 qbh) ∧ w'.cell? (ad190.add ((qbr).toNat * 2)) = some (.int .i64 ((rd_T63 l1 qbr).f0)) ∧ w'.cell? ⟨(ad190.add ((qbr).toNat * 2)).block, (ad190.add ((qbr).toNat * 2)).off + 1, none⟩ = some (.int .i64 ((rd_T63 l1 qbr).f1))) ∧ (w'.heap[qbn]? = some (.cells #[.string qbj, .int .i64 qbi, .int .i64 qbh] 61 (0, 0))) ∧ (w'.heap[qbl]? = some (.cells #[.string qbj, .int .i64 qbi, .int .i64 qbh] 61 (0, 0))) ∧ (w'.heap[s_]? = some (.cells #[.string (⟨#[]⟩ : ByteArray), .int .i64 0, .int .i64 0] 61 (0, 0))) ∧ (w.heap.size ≤ s_) ∧ (w.heap.size ≤ s_) ∧ (g186 ≠ s_) ∧ (s_ ≠ g186) ∧ (qbn ≠ s_) ∧ (s_ ≠ qbn) ∧ (qbl ≠ s_) ∧ (s_ ≠ qbl) ∧ (IsS83 w w' g186 qbw qbx qby) ∧ (Below w.heap.size w w')) ?_ ?_
          rotate_left
          ·intro hCont
           refine two_ (i := 7) (j := 11) (Ni := some 58) (Nj := some 10) sq9 sq10 rfl rfl rfl rfl (two_of HT_.out (by kernel_rfl)) (by decide) (by decide) (fun K hK => ?_) (fun K hK => ?_)
           ·skip
            refine goes_ Try.func29 (by kernel_rfl) rfl #[.agg #[.string qbj, .int .i64 qbi, .int .i64 qbh], .int .u64 (IntKind.u64.wrap ((rd_T63 l1 qbr).f1))] (by rfl) rfl rfl (by (try simp only [qar, qas, qat]); first | done | rfl) ?_
            with_reducible refine (stowageref01_Reader_Number.calls k2 qbj qbi qbh (IntKind.u64.wrap ((rd_T63 l1 qbr).f1)) t192 t193 t194 t195 _ A24.out).mono ?_
            rintro e w28 ⟨rfl, hb⟩
            refine ⟨_, rfl, ?_⟩
            have n0_ := qau (blk_below (g := qbn) (o := .cells #[.string qbj, .int .i64 qbi, .int .i64 qbh] 61 (0, 0)) (by (with_reducible repeat (first | refine qae ?_ _ | refine qag ?_ | refine qaf ?_ _)); exact qbk.out) hb)
            have n1_ := qau (qay (by repeat (first | (with_reducible first | exact qbg.out | apply qax | apply qba | apply qaz | apply qbd | apply qbe | apply qbf | refine qbb ?_ qbo.out _ | refine qbb ?_ qbp.out _) | exact qbg.out)) hb)
            have n2_ := qau (blk_below (g := qbl) (o := .cells #[.string qbj, .int .i64 qbi, .int .i64 qbh] 61 (0, 0)) (by (with_reducible repeat (first | refine qae ?_ _ | refine qag ?_ | refine qaf ?_ _)); exact qbm.out) hb)
            have n3_ := qau (below_step (by repeat (first | (with_reducible first | exact HB.out | apply qak | apply qai | apply qaj | refine qah ?_ (qbc qbg.out) | refine qah ?_ qbv.out | refine qah ?_ qbz.out) | exact HB.out)) hb)
            clear qbk
            clear qbg
            clear qbm
            clear HB
            have qbk := n0_
            have qbg := n1_
            have qbm := n2_
            have HB := n3_
            clear n0_ n1_ n2_ n3_
            (try clear hb)
            (try clear hb2)
            (try clear hk)
            (try clear hi)
            refine hK.out _ _ ⟨(qal qbk.out 0).trans rfl, (qal qbk.out 1).trans rfl, (qal qbk.out 2).trans rfl, ((HB.out.cell (qad w _ hw191_0)).trans hw191_0), ((HB.out.cell (qad w _ hw191_1)).trans hw191_1)⟩ (fun hHeld => ?_)
            clear hK K
            refine norm_ (a' := ?_) ?_ ?_
            rotate_left
            ·show Act.put _ (some 58) _ = _
             simp only [Act.put, qaa, qab, qac, i64_w, i32_w]
             rfl
            refine pure_ (i := 8) (N := some 50) (v := ?_) (a' := ?_) sq11 rfl rfl (any_of HT_.out (by kernel_rfl)) (fun _ _ _ h => h) (Or.inl ⟨by rfl, ?_⟩) ?_ ?_
            rotate_left
            ·intro w'
             go_simp
             with_reducible rfl
            rotate_left
            ·simp only [Act.put, qaa, qab, qac, i64_w, i32_w]
             rfl
            refine pure_ (i := 9) (N := some 59) (v := ?_) (a' := ?_) sq12 rfl rfl (any_of HT_.out (by kernel_rfl)) (fun _ _ _ h => h) (Or.inl ⟨by rfl, ?_⟩) ?_ ?_
            rotate_left
            ·intro w'
             go_simp
             with_reducible rfl
            rotate_left
            ·simp only [Act.put, qaa, qab, qac, i64_w, i32_w]
             rfl
            refine pure_ (i := 10) (N := some 60) (v := ?_) (a' := ?_) sq13 rfl rfl (any_of HT_.out (by kernel_rfl)) (fun _ _ _ h => h) (Or.inl ⟨by rfl, ?_⟩) ?_ ?_
            rotate_left
            ·intro w'
             go_simp
             with_reducible rfl
            rotate_left
            ·simp only [Act.put, qaa, qab, qac, i64_w, i32_w]
             rfl
            refine one_ (i := 11) (N := some 10) sq8 rfl rfl (one_of HT_.out (by kernel_rfl)) (by decide) (fun K hK => ?_)
            refine box_step ?hg (N := 10) ?hd (cs := #[.string (⟨#[]⟩ : ByteArray), .int .i64 0, .int .i64 0]) (t := 61) ?hr ?_; (case hd => rfl); (case hg => rfl); (case hr => first | (go_simp; done) | (go_simp; rfl))
            intro qca hg w29 hbox hb
            have n0_ := qau (blk_below (g := qbn) (o := .cells #[.string qbj, .int .i64 qbi, .int .i64 qbh] 61 (0, 0)) (by (with_reducible repeat (first | refine qae ?_ _ | refine qag ?_ | refine qaf ?_ _)); exact qbk.out) hb)
            have n1_ := qau (qay (by repeat (first | (with_reducible first | exact qbg.out | apply qax | apply qba | apply qaz | apply qbd | apply qbe | apply qbf | refine qbb ?_ qbo.out _ | refine qbb ?_ qbp.out _) | exact qbg.out)) hb)
            have n2_ := qau (blk_below (g := qbl) (o := .cells #[.string qbj, .int .i64 qbi, .int .i64 qbh] 61 (0, 0)) (by (with_reducible repeat (first | refine qae ?_ _ | refine qag ?_ | refine qaf ?_ _)); exact qbm.out) hb)
            have n3_ := qau (below_step (by repeat (first | (with_reducible first | exact HB.out | apply qak | apply qai | apply qaj | refine qah ?_ (qbc qbg.out) | refine qah ?_ qbv.out | refine qah ?_ qbz.out) | exact HB.out)) hb)
            have n4_ := qau (hbox)
            have n5_ := qau ((by rw [hg]; exact (below_size (by repeat (first | (with_reducible first | exact HB.out | apply qak | apply qai | apply qaj | refine qah ?_ (qbc qbg.out) | refine qah ?_ qbv.out | refine qah ?_ qbz.out) | exact HB.out))) : w.heap.size ≤ qca))
            have n6_ := qau ((by rw [hg]; exact (below_size (by repeat (first | (with_reducible first | exact HB.out | apply qak | apply qai | apply qaj | refine qah ?_ (qbc qbg.out) | refine qah ?_ qbv.out | refine qah ?_ qbz.out) | exact HB.out))) : w.heap.size ≤ qca))
            have n7_ := qau ((by rw [hg]; exact qap (blk_lt (g := qbn) (o := .cells #[.string qbj, .int .i64 qbi, .int .i64 qbh] 61 (0, 0)) (by (with_reducible repeat (first | refine qae ?_ _ | refine qag ?_ | refine qaf ?_ _)); exact qbk.out)) : qbn ≠ qca))
            have n8_ := qau ((by rw [hg]; exact qaq (blk_lt (g := qbn) (o := .cells #[.string qbj, .int .i64 qbi, .int .i64 qbh] 61 (0, 0)) (by (with_reducible repeat (first | refine qae ?_ _ | refine qag ?_ | refine qaf ?_ _)); exact qbk.out)) : qca ≠ qbn))
            have n9_ := qau ((by rw [hg]; exact qap (blk_lt (g := qbl) (o := .cells #[.string qbj, .int .i64 qbi, .int .i64 qbh] 61 (0, 0)) (by (with_reducible repeat (first | refine qae ?_ _ | refine qag ?_ | refine qaf ?_ _)); exact qbm.out)) : qbl ≠ qca))
            have n10_ := qau ((by rw [hg]; exact qaq (blk_lt (g := qbl) (o := .cells #[.string qbj, .int .i64 qbi, .int .i64 qbh] 61 (0, 0)) (by (with_reducible repeat (first | refine qae ?_ _ | refine qag ?_ | refine qaf ?_ _)); exact qbm.out)) : qca ≠ qbl))
            have n11_ := qau ((by rw [hg]; exact qap (IsS83.lt (show IsS83 w _ g186 qbw qbx qby from by repeat (first | (with_reducible first | exact qbg.out | apply qax | apply qba | apply qaz | apply qbd | apply qbe | apply qbf | refine qbb ?_ qbo.out _ | refine qbb ?_ qbp.out _) | exact qbg.out))) : g186 ≠ qca))
            have n12_ := qau ((by rw [hg]; exact qaq (IsS83.lt (show IsS83 w _ g186 qbw qbx qby from by repeat (first | (with_reducible first | exact qbg.out | apply qax | apply qba | apply qaz | apply qbd | apply qbe | apply qbf | refine qbb ?_ qbo.out _ | refine qbb ?_ qbp.out _) | exact qbg.out))) : qca ≠ g186))
            clear qbk
            clear qbg
            clear qbm
            clear HB
            have qbk := n0_
            have qbg := n1_
            have qbm := n2_
            have HB := n3_
            have qcp := n4_
            have qcj := n5_
            have qdp := n6_
            have qcg := n7_
            have qdc := n8_
            have qcs := n9_
            have qct := n10_
            have qcy := n11_
            have qdm := n12_
            clear n0_ n1_ n2_ n3_ n4_ n5_ n6_ n7_ n8_ n9_ n10_ n11_ n12_
            clear hb hbox hg
            refine hK.out _ _ ⟨(qal qbk.out 0).trans rfl, (qal qbk.out 1).trans rfl, (qal qbk.out 2).trans rfl, ((HB.out.cell (qad w _ hw191_0)).trans hw191_0), ((HB.out.cell (qad w _ hw191_1)).trans hw191_1)⟩ (fun hHeld => ?_)
            clear hK K
            refine norm_ (a' := ?_) ?_ ?_
            rotate_left
            ·show Act.put _ (some 10) _ = _
             simp only [Act.put, qaa, qab, qac, i64_w, i32_w]
             rfl
            exact norm_ (by simp only [putAll, Act.put, qaa, qab, qac]) (hCont (qca) _ ⟨hHeld, (by (with_reducible repeat (first | refine qae ?_ _ | refine qag ?_ | refine qaf ?_ _)); exact qbk.out), (by (with_reducible repeat (first | refine qae ?_ _ | refine qag ?_ | refine qaf ?_ _)); exact qbm.out), (by (with_reducible repeat (first | refine qae ?_ _ | refine qag ?_ | refine qaf ?_ _)); exact qcp.out), qcj.out, qdp.out, qcy.out, qdm.out, qcg.out, qdc.out, qcs.out, qct.out, (by repeat (first | (with_reducible first | exact qbg.out | apply qax | apply qba | apply qaz | apply qbd | apply qbe | apply qbf | refine qbb ?_ qbo.out _ | refine qbb ?_ qbp.out _ | refine qbb ?_ qcy.out _) | exact qbg.out)), (by repeat (first | (with_reducible first | exact HB.out | apply qak | apply qai | apply qaj | refine qah ?_ (qbc qbg.out) | refine qah ?_ qbv.out | refine qah ?_ qbz.out | refine qah ?_ qdp.out) | exact HB.out))⟩)
           ·skip
            refine box_step ?hg (N := 10) ?hd (cs := #[.string (⟨#[]⟩ : ByteArray), .int .i64 0, .int .i64 0]) (t := 61) ?hr ?_; (case hd => rfl); (case hg => rfl); (case hr => first | (go_simp; done) | (go_simp; rfl))
            intro qca hg w28 hbox hb
            have n0_ := qau (blk_below (g := qbn) (o := .cells #[.string qbj, .int .i64 qbi, .int .i64 qbh] 61 (0, 0)) (by (with_reducible repeat (first | refine qae ?_ _ | refine qag ?_ | refine qaf ?_ _)); exact qbk.out) hb)
            have n1_ := qau (qay (by repeat (first | (with_reducible first | exact qbg.out | apply qax | apply qba | apply qaz | apply qbd | apply qbe | apply qbf | refine qbb ?_ qbo.out _ | refine qbb ?_ qbp.out _) | exact qbg.out)) hb)
            have n2_ := qau (blk_below (g := qbl) (o := .cells #[.string qbj, .int .i64 qbi, .int .i64 qbh] 61 (0, 0)) (by (with_reducible repeat (first | refine qae ?_ _ | refine qag ?_ | refine qaf ?_ _)); exact qbm.out) hb)
            have n3_ := qau (below_step (by repeat (first | (with_reducible first | exact HB.out | apply qak | apply qai | apply qaj | refine qah ?_ (qbc qbg.out) | refine qah ?_ qbv.out | refine qah ?_ qbz.out) | exact HB.out)) hb)
            have n4_ := qau (hbox)
            have n5_ := qau ((by rw [hg]; exact (below_size (by repeat (first | (with_reducible first | exact HB.out | apply qak | apply qai | apply qaj | refine qah ?_ (qbc qbg.out) | refine qah ?_ qbv.out | refine qah ?_ qbz.out) | exact HB.out))) : w.heap.size ≤ qca))
            have n6_ := qau ((by rw [hg]; exact (below_size (by repeat (first | (with_reducible first | exact HB.out | apply qak | apply qai | apply qaj | refine qah ?_ (qbc qbg.out) | refine qah ?_ qbv.out | refine qah ?_ qbz.out) | exact HB.out))) : w.heap.size ≤ qca))
            have n7_ := qau ((by rw [hg]; exact qap (blk_lt (g := qbn) (o := .cells #[.string qbj, .int .i64 qbi, .int .i64 qbh] 61 (0, 0)) (by (with_reducible repeat (first | refine qae ?_ _ | refine qag ?_ | refine qaf ?_ _)); exact qbk.out)) : qbn ≠ qca))
            have n8_ := qau ((by rw [hg]; exact qaq (blk_lt (g := qbn) (o := .cells #[.string qbj, .int .i64 qbi, .int .i64 qbh] 61 (0, 0)) (by (with_reducible repeat (first | refine qae ?_ _ | refine qag ?_ | refine qaf ?_ _)); exact qbk.out)) : qca ≠ qbn))
            have n9_ := qau ((by rw [hg]; exact qap (blk_lt (g := qbl) (o := .cells #[.string qbj, .int .i64 qbi, .int .i64 qbh] 61 (0, 0)) (by (with_reducible repeat (first | refine qae ?_ _ | refine qag ?_ | refine qaf ?_ _)); exact qbm.out)) : qbl ≠ qca))
            have n10_ := qau ((by rw [hg]; exact qaq (blk_lt (g := qbl) (o := .cells #[.string qbj, .int .i64 qbi, .int .i64 qbh] 61 (0, 0)) (by (with_reducible repeat (first | refine qae ?_ _ | refine qag ?_ | refine qaf ?_ _)); exact qbm.out)) : qca ≠ qbl))
            have n11_ := qau ((by rw [hg]; exact qap (IsS83.lt (show IsS83 w _ g186 qbw qbx qby from by repeat (first | (with_reducible first | exact qbg.out | apply qax | apply qba | apply qaz | apply qbd | apply qbe | apply qbf | refine qbb ?_ qbo.out _ | refine qbb ?_ qbp.out _) | exact qbg.out))) : g186 ≠ qca))
            have n12_ := qau ((by rw [hg]; exact qaq (IsS83.lt (show IsS83 w _ g186 qbw qbx qby from by repeat (first | (with_reducible first | exact qbg.out | apply qax | apply qba | apply qaz | apply qbd | apply qbe | apply qbf | refine qbb ?_ qbo.out _ | refine qbb ?_ qbp.out _) | exact qbg.out))) : qca ≠ g186))
            clear qbk
            clear qbg
            clear qbm
            clear HB
            have qbk := n0_
            have qbg := n1_
            have qbm := n2_
            have HB := n3_
            have qcp := n4_
            have qcj := n5_
            have qdp := n6_
            have qcg := n7_
            have qdc := n8_
            have qcs := n9_
            have qct := n10_
            have qcy := n11_
            have qdm := n12_
            clear n0_ n1_ n2_ n3_ n4_ n5_ n6_ n7_ n8_ n9_ n10_ n11_ n12_
            clear hb hbox hg
            refine hK.out _ _ ⟨(qal qbk.out 0).trans rfl, (qal qbk.out 1).trans rfl, (qal qbk.out 2).trans rfl, ((HB.out.cell (qad w _ hw191_0)).trans hw191_0), ((HB.out.cell (qad w _ hw191_1)).trans hw191_1)⟩ (fun hHeld => ?_)
            clear hK K
            refine norm_ (a' := ?_) ?_ ?_
            rotate_left
            ·show Act.put _ (some 10) _ = _
             simp only [Act.put, qaa, qab, qac, i64_w, i32_w]
             rfl
            refine one_ (i := 7) (N := some 58) sq14 rfl rfl (one_of HT_.out (by kernel_rfl)) (by decide) (fun K hK => ?_)
            refine goes_ Try.func29 (by kernel_rfl) rfl #[.agg #[.string qbj, .int .i64 qbi, .int .i64 qbh], .int .u64 (IntKind.u64.wrap ((rd_T63 l1 qbr).f1))] (by rfl) rfl rfl (by (try simp only [qar, qas, qat]); first | done | rfl) ?_
            with_reducible refine (stowageref01_Reader_Number.calls k2 qbj qbi qbh (IntKind.u64.wrap ((rd_T63 l1 qbr).f1)) t192 t193 t194 t195 _ A24.out).mono ?_
            rintro e w29 ⟨rfl, hb⟩
            refine ⟨_, rfl, ?_⟩
            have n0_ := qau (blk_below (g := qbn) (o := .cells #[.string qbj, .int .i64 qbi, .int .i64 qbh] 61 (0, 0)) (by (with_reducible repeat (first | refine qae ?_ _ | refine qag ?_ | refine qaf ?_ _)); exact qbk.out) hb)
            have n1_ := qau (qay (by repeat (first | (with_reducible first | exact qbg.out | apply qax | apply qba | apply qaz | apply qbd | apply qbe | apply qbf | refine qbb ?_ qbo.out _ | refine qbb ?_ qbp.out _ | refine qbb ?_ qcy.out _) | exact qbg.out)) hb)
            have n2_ := qau (blk_below (g := qbl) (o := .cells #[.string qbj, .int .i64 qbi, .int .i64 qbh] 61 (0, 0)) (by (with_reducible repeat (first | refine qae ?_ _ | refine qag ?_ | refine qaf ?_ _)); exact qbm.out) hb)
            have n3_ := qau (blk_below (g := qca) (o := .cells #[.string (⟨#[]⟩ : ByteArray), .int .i64 0, .int .i64 0] 61 (0, 0)) (by (with_reducible repeat (first | refine qae ?_ _ | refine qag ?_ | refine qaf ?_ _)); exact qcp.out) hb)
            have n4_ := qau (below_step (by repeat (first | (with_reducible first | exact HB.out | apply qak | apply qai | apply qaj | refine qah ?_ (qbc qbg.out) | refine qah ?_ qbv.out | refine qah ?_ qbz.out | refine qah ?_ qdp.out) | exact HB.out)) hb)
            clear qbk
            clear qbg
            clear qbm
            clear qcp
            clear HB
            have qbk := n0_
            have qbg := n1_
            have qbm := n2_
            have qcp := n3_
            have HB := n4_
            clear n0_ n1_ n2_ n3_ n4_
            (try clear hb)
            (try clear hb2)
            (try clear hk)
            (try clear hi)
            refine hK.out _ _ ⟨(qal qbk.out 0).trans rfl, (qal qbk.out 1).trans rfl, (qal qbk.out 2).trans rfl, ((HB.out.cell (qad w _ hw191_0)).trans hw191_0), ((HB.out.cell (qad w _ hw191_1)).trans hw191_1)⟩ (fun hHeld => ?_)
            clear hK K
            refine norm_ (a' := ?_) ?_ ?_
            rotate_left
            ·show Act.put _ (some 58) _ = _
             simp only [Act.put, qaa, qab, qac, i64_w, i32_w]
             rfl
            refine pure_ (i := 8) (N := some 50) (v := ?_) (a' := ?_) sq15 rfl rfl (any_of HT_.out (by kernel_rfl)) (fun _ _ _ h => h) (Or.inl ⟨by rfl, ?_⟩) ?_ ?_
            rotate_left
            ·intro w'
             go_simp
             with_reducible rfl
            rotate_left
            ·simp only [Act.put, qaa, qab, qac, i64_w, i32_w]
             rfl
            refine pure_ (i := 9) (N := some 59) (v := ?_) (a' := ?_) sq16 rfl rfl (any_of HT_.out (by kernel_rfl)) (fun _ _ _ h => h) (Or.inl ⟨by rfl, ?_⟩) ?_ ?_
            rotate_left
            ·intro w'
             go_simp
             with_reducible rfl
            rotate_left
            ·simp only [Act.put, qaa, qab, qac, i64_w, i32_w]
             rfl
            refine pure_ (i := 10) (N := some 60) (v := ?_) (a' := ?_) sq8 rfl rfl (any_of HT_.out (by kernel_rfl)) (fun _ _ _ h => h) (Or.inl ⟨by rfl, ?_⟩) ?_ ?_
            rotate_left
            ·intro w'
             go_simp
             with_reducible rfl
            rotate_left
            ·simp only [Act.put, qaa, qab, qac, i64_w, i32_w]
             rfl
            exact norm_ (by simp only [putAll, Act.put, qaa, qab, qac]) (hCont (qca) _ ⟨hHeld, (by (with_reducible repeat (first | refine qae ?_ _ | refine qag ?_ | refine qaf ?_ _)); exact qbk.out), (by (with_reducible repeat (first | refine qae ?_ _ | refine qag ?_ | refine qaf ?_ _)); exact qbm.out), (by (with_reducible repeat (first | refine qae ?_ _ | refine qag ?_ | refine qaf ?_ _)); exact qcp.out), qcj.out, qdp.out, qcy.out, qdm.out, qcg.out, qdc.out, qcs.out, qct.out, (by repeat (first | (with_reducible first | exact qbg.out | apply qax | apply qba | apply qaz | apply qbd | apply qbe | apply qbf | refine qbb ?_ qbo.out _ | refine qbb ?_ qbp.out _ | refine qbb ?_ qcy.out _) | exact qbg.out)), (by repeat (first | (with_reducible first | exact HB.out | apply qak | apply qai | apply qaj | refine qah ?_ (qbc qbg.out) | refine qah ?_ qbv.out | refine qah ?_ qbz.out | refine qah ?_ qdp.out) | exact HB.out))⟩)
          rintro qca w30 ⟨hS_, h0_, h1_, h2_, h3_, h4_, h5_, h6_, h7_, h8_, h9_, h10_, h11_, h12_⟩
          have n0_ : Aside0 (w30.heap[qbn]? = some (.cells #[.string qbj, .int .i64 qbi, .int .i64 qbh] 61 (0, 0))) := ⟨h0_⟩
          have n1_ : Aside0 (w30.heap[qbl]? = some (.cells #[.string qbj, .int .i64 qbi, .int .i64 qbh] 61 (0, 0))) := ⟨h1_⟩
          have n2_ : Aside0 (w30.heap[qca]? = some (.cells #[.string (⟨#[]⟩ : ByteArray), .int .i64 0, .int .i64 0] 61 (0, 0))) := ⟨h2_⟩
          have n3_ : Aside0 (w.heap.size ≤ qca) := ⟨h3_⟩
          have n4_ : Aside0 (w.heap.size ≤ qca) := ⟨h4_⟩
          have n5_ : Aside0 (g186 ≠ qca) := ⟨h5_⟩
          have n6_ : Aside0 (qca ≠ g186) := ⟨h6_⟩
          have n7_ : Aside0 (qbn ≠ qca) := ⟨h7_⟩
          have n8_ : Aside0 (qca ≠ qbn) := ⟨h8_⟩
          have n9_ : Aside0 (qbl ≠ qca) := ⟨h9_⟩
          have n10_ : Aside0 (qca ≠ qbl) := ⟨h10_⟩
          have n11_ : Aside0 (IsS83 w w30 g186 qbw qbx qby) := ⟨h11_⟩
          have n12_ : Aside0 (Below w.heap.size w w30) := ⟨h12_⟩
          clear qbk
          clear qbm
          clear qbg
          clear HB
          clear h0_ h1_ h2_ h3_ h4_ h5_ h6_ h7_ h8_ h9_ h10_ h11_ h12_
          have qbk := n0_
          have qbm := n1_
          have qcp := n2_
          have qcj := n3_
          have qdp := n4_
          have qcy := n5_
          have qdm := n6_
          have qcg := n7_
          have qdc := n8_
          have qcs := n9_
          have qct := n10_
          have qbg := n11_
          have HB := n12_
          clear n0_ n1_ n2_ n3_ n4_ n5_ n6_ n7_ n8_ n9_ n10_ n11_ n12_
          have hHeld : w30.cell? ⟨qbn, 0, none⟩ = some (.string qbj) ∧ w30.cell? ⟨qbn, 1, none⟩ = some (.int .i64 qbi) ∧ w30.cell? ⟨qbn, 2, none⟩ = some (.int .i64 qbh) ∧ w30.cell? (ad190.add ((qbr).toNat * 2)) = some (.int .i64 ((rd_T63 l1 qbr).f0)) ∧ w30.cell? ⟨(ad190.add ((qbr).toNat * 2)).block, (ad190.add ((qbr).toNat * 2)).off + 1, none⟩ = some (.int .i64 ((rd_T63 l1 qbr).f1)) := hS_
          refine norm_ (a' := ?_) ?_ ?_
          rotate_left
          ·simp only [putAll, Act.put, qaa, qab, qac]
           rfl
          refine one_ (i := 12) (N := none) sq17 rfl rfl (one_of HT_.out (by kernel_rfl)) (by decide) (fun K hK => ?_)
          have hs31 : w30.cell? ⟨qca, 0, none⟩ = some (.string (⟨#[]⟩ : ByteArray)) := (qal qcp.out 0).trans rfl
          have hfs31 := qam qcp.out 0
          have hns31_0 := qcg.out
          have hns31_1 := qcs.out
          have hms31_0 := qdc.out
          have hms31_1 := qct.out
          have hs32 : w30.cell? ⟨qca, 1, none⟩ = some (.int .i64 0) := (qal qcp.out 1).trans rfl
          have hfs32 := qam qcp.out 1
          have hns32_0 := qcg.out
          have hns32_1 := qcs.out
          have hms32_0 := qdc.out
          have hms32_1 := qct.out
          have hs33 : w30.cell? ⟨qca, 2, none⟩ = some (.int .i64 0) := (qal qcp.out 2).trans rfl
          have hfs33 := qam qcp.out 2
          have hns33_0 := qcg.out
          have hns33_1 := qcs.out
          have hms33_0 := qdc.out
          have hms33_1 := qct.out
          refine skip_ (w1 := ?_) (by rfl) rfl ?_ ?_
          rotate_left
          ·go_simp
           rfl
          refine hK.out _ _ ⟨((qan (p := ⟨qca, _, none⟩) qcg.out _).trans (((qan (p := ⟨qca, _, none⟩) qcg.out _).trans (((qan (p := ⟨qca, _, none⟩) qcg.out _).trans (hHeld.1)))))), ((qan (p := ⟨qca, _, none⟩) qcg.out _).trans (((qan (p := ⟨qca, _, none⟩) qcg.out _).trans (((qan (p := ⟨qca, _, none⟩) qcg.out _).trans (hHeld.2.1)))))), ((qan (p := ⟨qca, _, none⟩) qcg.out _).trans (((qan (p := ⟨qca, _, none⟩) qcg.out _).trans (((qan (p := ⟨qca, _, none⟩) qcg.out _).trans (hHeld.2.2.1)))))), ((qan (p := ⟨qca, _, none⟩) (by first | exact qap (qao (by have := qad _ _ hw191_0; first | rwa [qav] at this | exact this) qcj.out) | (rw [qav]; exact qap (qao (by have := qad _ _ hw191_0; first | rwa [qav] at this | exact this) qcj.out)) | (show (Addr.add _ _).block ≠ _; rw [qav]; exact qap (qao (by have := qad _ _ hw191_0; first | rwa [qav] at this | exact this) qcj.out)) | (dsimp only; exact qap (qao (by have := qad _ _ hw191_0; first | rwa [qav] at this | exact this) qcj.out))) _).trans (((qan (p := ⟨qca, _, none⟩) (by first | exact qap (qao (by have := qad _ _ hw191_0; first | rwa [qav] at this | exact this) qcj.out) | (rw [qav]; exact qap (qao (by have := qad _ _ hw191_0; first | rwa [qav] at this | exact this) qcj.out)) | (show (Addr.add _ _).block ≠ _; rw [qav]; exact qap (qao (by have := qad _ _ hw191_0; first | rwa [qav] at this | exact this) qcj.out)) | (dsimp only; exact qap (qao (by have := qad _ _ hw191_0; first | rwa [qav] at this | exact this) qcj.out))) _).trans (((qan (p := ⟨qca, _, none⟩) (by first | exact qap (qao (by have := qad _ _ hw191_0; first | rwa [qav] at this | exact this) qcj.out) | (rw [qav]; exact qap (qao (by have := qad _ _ hw191_0; first | rwa [qav] at this | exact this) qcj.out)) | (show (Addr.add _ _).block ≠ _; rw [qav]; exact qap (qao (by have := qad _ _ hw191_0; first | rwa [qav] at this | exact this) qcj.out)) | (dsimp only; exact qap (qao (by have := qad _ _ hw191_0; first | rwa [qav] at this | exact this) qcj.out))) _).trans (hHeld.2.2.2.1)))))), ((qan (p := ⟨qca, _, none⟩) (by first | exact qap (qao (by have := qad _ _ hw191_1; first | rwa [qav] at this | exact this) qcj.out) | (rw [qav]; exact qap (qao (by have := qad _ _ hw191_1; first | rwa [qav] at this | exact this) qcj.out)) | (show (Addr.add _ _).block ≠ _; rw [qav]; exact qap (qao (by have := qad _ _ hw191_1; first | rwa [qav] at this | exact this) qcj.out)) | (dsimp only; exact qap (qao (by have := qad _ _ hw191_1; first | rwa [qav] at this | exact this) qcj.out))) _).trans (((qan (p := ⟨qca, _, none⟩) (by first | exact qap (qao (by have := qad _ _ hw191_1; first | rwa [qav] at this | exact this) qcj.out) | (rw [qav]; exact qap (qao (by have := qad _ _ hw191_1; first | rwa [qav] at this | exact this) qcj.out)) | (show (Addr.add _ _).block ≠ _; rw [qav]; exact qap (qao (by have := qad _ _ hw191_1; first | rwa [qav] at this | exact this) qcj.out)) | (dsimp only; exact qap (qao (by have := qad _ _ hw191_1; first | rwa [qav] at this | exact this) qcj.out))) _).trans (((qan (p := ⟨qca, _, none⟩) (by first | exact qap (qao (by have := qad _ _ hw191_1; first | rwa [qav] at this | exact this) qcj.out) | (rw [qav]; exact qap (qao (by have := qad _ _ hw191_1; first | rwa [qav] at this | exact this) qcj.out)) | (show (Addr.add _ _).block ≠ _; rw [qav]; exact qap (qao (by have := qad _ _ hw191_1; first | rwa [qav] at this | exact this) qcj.out)) | (dsimp only; exact qap (qao (by have := qad _ _ hw191_1; first | rwa [qav] at this | exact this) qcj.out))) _).trans (hHeld.2.2.2.2))))))⟩ (fun hHeld => ?_)
          clear hK K
          refine pure_ (i := 13) (N := some 11) (v := ?_) (a' := ?_) sq18 rfl rfl (any_of HT_.out (by kernel_rfl)) (fun _ _ _ h => h) (Or.inl ⟨by rfl, ?_⟩) ?_ ?_
          rotate_left
          ·intro w'
           go_simp
           with_reducible rfl
          rotate_left
          ·simp only [Act.put, qaa, qab, qac, i64_w, i32_w]
           rfl
          refine done_ (done_of HT_.out (by kernel_rfl)) ?_
          have hnb34 := qdc.out
          have hnc34 := qcg.out
          have hnb35 := qct.out
          have hnc35 := qcs.out
          have hnb36 := qdm.out
          have hnc36 := qcy.out
          have qjb : w30.cell? ⟨qca, 0, none⟩ = some (.string (⟨#[]⟩ : ByteArray)) := (qal qcp.out 0).trans rfl
          have qjc : w30.cell? ⟨qca, 1, none⟩ = some (.int .i64 0) := (qal qcp.out 1).trans rfl
          have qjd : w30.cell? ⟨qca, 2, none⟩ = some (.int .i64 0) := (qal qcp.out 2).trans rfl
          have qje := qam qcp.out 0
          have qjf := qam qcp.out 1
          have qjg := qam qcp.out 2
          have hnb38 := qcd.out
          have hnc38 := qbu.out
          have hnb39 := qce.out
          have hnc39 := qbp.out
          have qjh : w30.cell? ⟨qbl, 0, none⟩ = some (.string qbj) := (qal qbm.out 0).trans rfl
          have qji : w30.cell? ⟨qbl, 1, none⟩ = some (.int .i64 qbi) := (qal qbm.out 1).trans rfl
          have qjj : w30.cell? ⟨qbl, 2, none⟩ = some (.int .i64 qbh) := (qal qbm.out 2).trans rfl
          have qjk := qam qbm.out 0
          have qjl := qam qbm.out 1
          have qjm := qam qbm.out 2
          have p197 : 0 ≤ (qbr : Int) := of_decide_eq_true (by first | (with_reducible assumption) | assumption)
          have q197 : qbr < (l1.length : Int) := of_decide_eq_true (by first | (with_reducible assumption) | assumption)
          obtain ⟨ad197, e197, hx197_0, hx197_1⟩ := at_T63 HR1.out qbr p197 q197
          obtain rfl : ad190 = ad197 := (by injection e197)
          have hn197_0 : ad190.block ≠ qca := qap (qao (by have := qad _ _ hx197_0; first | rwa [qav] at this | exact this) qcj.out)
          have hn197_1 : ad190.block ≠ qca := qap (qao (by have := qad _ _ hx197_0; first | rwa [qav] at this | exact this) qcj.out)
          have hn197_2 : ad190.block ≠ qca := qap (qao (by have := qad _ _ hx197_0; first | rwa [qav] at this | exact this) qcj.out)
          have hn197_3 : ad190.block ≠ qbl := qap (qao (by have := qad _ _ hx197_0; first | rwa [qav] at this | exact this) qdb.out)
          have hn197_4 : ad190.block ≠ qbl := qap (qao (by have := qad _ _ hx197_0; first | rwa [qav] at this | exact this) qdb.out)
          have hn197_5 : ad190.block ≠ qbl := qap (qao (by have := qad _ _ hx197_0; first | rwa [qav] at this | exact this) qdb.out)
          replace hx197_0 := (HB.out.cell (qad w _ hx197_0)).trans hx197_0
          replace hx197_1 := (HB.out.cell (qad w _ hx197_1)).trans hx197_1
          replace hx197_0 := (qan (p := ⟨qca, 0, none⟩) (by first | (rw [qav]; exact hn197_0) | (show (Addr.add _ _).block ≠ _; rw [qav]; exact hn197_0) | exact hn197_0) (.string t192)).trans hx197_0
          replace hx197_1 := (qan (p := ⟨qca, 0, none⟩) (by first | (rw [qav]; exact hn197_0) | (show (Addr.add _ _).block ≠ _; rw [qav]; exact hn197_0) | exact hn197_0) (.string t192)).trans hx197_1
          replace hx197_0 := (qan (p := ⟨qca, 1, none⟩) (by first | (rw [qav]; exact hn197_1) | (show (Addr.add _ _).block ≠ _; rw [qav]; exact hn197_1) | exact hn197_1) (.int .i64 t193)).trans hx197_0
          replace hx197_1 := (qan (p := ⟨qca, 1, none⟩) (by first | (rw [qav]; exact hn197_1) | (show (Addr.add _ _).block ≠ _; rw [qav]; exact hn197_1) | exact hn197_1) (.int .i64 t193)).trans hx197_1
          replace hx197_0 := (qan (p := ⟨qca, 2, none⟩) (by first | (rw [qav]; exact hn197_2) | (show (Addr.add _ _).block ≠ _; rw [qav]; exact hn197_2) | exact hn197_2) (.int .i64 t194)).trans hx197_0
          replace hx197_1 := (qan (p := ⟨qca, 2, none⟩) (by first | (rw [qav]; exact hn197_2) | (show (Addr.add _ _).block ≠ _; rw [qav]; exact hn197_2) | exact hn197_2) (.int .i64 t194)).trans hx197_1
          replace hx197_0 := (qan (p := ⟨qbl, 0, none⟩) (by first | (rw [qav]; exact hn197_3) | (show (Addr.add _ _).block ≠ _; rw [qav]; exact hn197_3) | exact hn197_3) (.string t192)).trans hx197_0
          replace hx197_1 := (qan (p := ⟨qbl, 0, none⟩) (by first | (rw [qav]; exact hn197_3) | (show (Addr.add _ _).block ≠ _; rw [qav]; exact hn197_3) | exact hn197_3) (.string t192)).trans hx197_1
          replace hx197_0 := (qan (p := ⟨qbl, 1, none⟩) (by first | (rw [qav]; exact hn197_4) | (show (Addr.add _ _).block ≠ _; rw [qav]; exact hn197_4) | exact hn197_4) (.int .i64 t193)).trans hx197_0
          replace hx197_1 := (qan (p := ⟨qbl, 1, none⟩) (by first | (rw [qav]; exact hn197_4) | (show (Addr.add _ _).block ≠ _; rw [qav]; exact hn197_4) | exact hn197_4) (.int .i64 t193)).trans hx197_1
          replace hx197_0 := (qan (p := ⟨qbl, 2, none⟩) (by first | (rw [qav]; exact hn197_5) | (show (Addr.add _ _).block ≠ _; rw [qav]; exact hn197_5) | exact hn197_5) (.int .i64 t194)).trans hx197_0
          replace hx197_1 := (qan (p := ⟨qbl, 2, none⟩) (by first | (rw [qav]; exact hn197_5) | (show (Addr.add _ _).block ≠ _; rw [qav]; exact hn197_5) | exact hn197_5) (.int .i64 t194)).trans hx197_1
          clear hn197_0
          clear hn197_1
          clear hn197_2
          clear hn197_3
          clear hn197_4
          clear hn197_5
          replace p197 := eq_true p197
          replace q197 := eq_true q197
          try go_wp2_with (first | ((with_reducible refine gate_callee (f := 30) rfl ?_); refine goesL_ (some 69) rfl rfl Try.func30 (by kernel_rfl) rfl #[.pointer (some ⟨g186, 0, none⟩), .int .u64 (IntKind.u64.wrap ((rd_T63 l1 qbr).f1))] rfl (by (try simp only [qar, qas, qat]); first | done | rfl | (rw [IntWalk.u64_in ((rd_T63 l1 qbr).f1) (by first | omega | (simp only [decide_eq_false_iff_not, decide_eq_true_eq] at *; omega))]; rfl)) ?_; (with_reducible refine (octet_Reader_Number.calls k2 g186 qbw qbx qby (IntKind.u64.wrap ((rd_T63 l1 qbr).f1)) t198 t199 t200 t201 w _ ?side1 ?side2 A25.out).mono ?_); (case side1 => repeat (first | (with_reducible first | exact qbg.out | apply qax | apply qba | apply qaz | apply qbd | apply qbe | apply qbf | refine qbb ?_ qbo.out _ | refine qbb ?_ qbp.out _ | refine qbb ?_ qcy.out _) | exact qbg.out)); (case side2 => repeat (first | (with_reducible first | exact HB.out | apply qak | apply qai | apply qaj | refine qah ?_ (qbc qbg.out) | refine qah ?_ qbv.out | refine qah ?_ qbz.out | refine qah ?_ qdp.out) | exact HB.out)); rintro e w41 ⟨rfl, hi, hb, hk⟩; refine ⟨_, rfl, ?_⟩; have n0_ := qau (KeepBut.blk hk (g' := qbn) (o := .cells #[.string qbj, .int .i64 qbi, .int .i64 qbh] 61 (0, 0)) (by (with_reducible repeat (first | refine qae ?_ _ | refine qag ?_ | refine qaf ?_ _)); refine blk_far ?_ qbu.out _; (with_reducible repeat (first | refine qae ?_ _ | refine qag ?_ | refine qaf ?_ _)); refine blk_far ?_ qbu.out _; (with_reducible repeat (first | refine qae ?_ _ | refine qag ?_ | refine qaf ?_ _)); refine blk_far ?_ qbu.out _; (with_reducible repeat (first | refine qae ?_ _ | refine qag ?_ | refine qaf ?_ _)); refine blk_far ?_ qcg.out _; (with_reducible repeat (first | refine qae ?_ _ | refine qag ?_ | refine qaf ?_ _)); refine blk_far ?_ qcg.out _; (with_reducible repeat (first | refine qae ?_ _ | refine qag ?_ | refine qaf ?_ _)); refine blk_far ?_ qcg.out _; (with_reducible repeat (first | refine qae ?_ _ | refine qag ?_ | refine qaf ?_ _)); exact qbk.out) qcf.out (by simp)); have n1_ := qau (KeepBut.blk hk (g' := qbl) (o := .cells #[.string t192, .int .i64 t193, .int .i64 t194] 61 (0, 0)) (by (with_reducible repeat (first | refine qae ?_ _ | refine qag ?_ | refine qaf ?_ _)); refine blk_put (cs := #[.string t192, .int .i64 t193, .int .i64 qbh]) ?_ 2 _ rfl; (with_reducible repeat (first | refine qae ?_ _ | refine qag ?_ | refine qaf ?_ _)); refine blk_put (cs := #[.string t192, .int .i64 qbi, .int .i64 qbh]) ?_ 1 _ rfl; (with_reducible repeat (first | refine qae ?_ _ | refine qag ?_ | refine qaf ?_ _)); refine blk_put (cs := #[.string qbj, .int .i64 qbi, .int .i64 qbh]) ?_ 0 _ rfl; (with_reducible repeat (first | refine qae ?_ _ | refine qag ?_ | refine qaf ?_ _)); refine blk_far ?_ qcs.out _; (with_reducible repeat (first | refine qae ?_ _ | refine qag ?_ | refine qaf ?_ _)); refine blk_far ?_ qcs.out _; (with_reducible repeat (first | refine qae ?_ _ | refine qag ?_ | refine qaf ?_ _)); refine blk_far ?_ qcs.out _; (with_reducible repeat (first | refine qae ?_ _ | refine qag ?_ | refine qaf ?_ _)); exact qbm.out) qce.out (by simp)); have n2_ := qau (KeepBut.blk hk (g' := qca) (o := .cells #[.string t192, .int .i64 t193, .int .i64 t194] 61 (0, 0)) (by (with_reducible repeat (first | refine qae ?_ _ | refine qag ?_ | refine qaf ?_ _)); refine blk_far ?_ qct.out _; (with_reducible repeat (first | refine qae ?_ _ | refine qag ?_ | refine qaf ?_ _)); refine blk_far ?_ qct.out _; (with_reducible repeat (first | refine qae ?_ _ | refine qag ?_ | refine qaf ?_ _)); refine blk_far ?_ qct.out _; (with_reducible repeat (first | refine qae ?_ _ | refine qag ?_ | refine qaf ?_ _)); refine blk_put (cs := #[.string t192, .int .i64 t193, .int .i64 0]) ?_ 2 _ rfl; (with_reducible repeat (first | refine qae ?_ _ | refine qag ?_ | refine qaf ?_ _)); refine blk_put (cs := #[.string t192, .int .i64 0, .int .i64 0]) ?_ 1 _ rfl; (with_reducible repeat (first | refine qae ?_ _ | refine qag ?_ | refine qaf ?_ _)); refine blk_put (cs := #[.string (⟨#[]⟩ : ByteArray), .int .i64 0, .int .i64 0]) ?_ 0 _ rfl; (with_reducible repeat (first | refine qae ?_ _ | refine qag ?_ | refine qaf ?_ _)); exact qcp.out) qdm.out (by simp)); have n3_ := qau (hb); have n4_ := qau (hi); clear qbk; clear qbm; clear qcp; clear HB; clear qbg; have qbk := n0_; have qbm := n1_; have qcp := n2_; have HB := n3_; have qbg := n4_; clear n0_ n1_ n2_ n3_ n4_; (try clear hb); (try clear hk); (try clear hi)))
          go_meet
          case rel => exact ⟨_, ((t198 == t195)), (t199), (t200), (t201), (t192), (t193), (t194), (by first | rfl | (simp; done) | (simp [*]; done)), H', ⟨by have := HJ3.out; have := HK2.out; first | omega | exact Nat.le_refl _⟩, ⟨by (with_reducible repeat (first | refine qae ?_ _ | refine qag ?_ | refine qaf ?_ _)); exact qbk.out⟩, ⟨by (with_reducible repeat (first | refine qae ?_ _ | refine qag ?_ | refine qaf ?_ _)); exact qbm.out⟩, ⟨by repeat (first | (with_reducible first | exact qbg.out | apply qax | apply qba | apply qaz | apply qbd | apply qbe | apply qbf | refine qbb ?_ qbo.out _ | refine qbb ?_ qbp.out _ | refine qbb ?_ qcy.out _) | exact qbg.out)⟩, ⟨by repeat (first | (with_reducible first | exact HB.out | apply qak | apply qai | apply qaj | refine qah ?_ (qbc qbg.out) | refine qah ?_ qbv.out | refine qah ?_ qbz.out | refine qah ?_ qdp.out) | exact HB.out)⟩⟩
         ·focus
          rw [if_neg c23] at H
          have c23b0 : (((rd_T63 l1 qbr).f0) == 0) = false := beq_eq_false_iff_ne.mpr c23
          have c23b1 : (((rd_T63 l1 qbr).f0) != 0) = true := bne_iff_ne.mpr c23
          (first | rw [c23b0] | (simp only [i64_w, i32_w]; rw [c23b0]) | skip)
          by_cases c42 : ((rd_T63 l1 qbr).f0) = 1
          ·focus
           rw [if_pos c42] at H
           have c42b0 : (((rd_T63 l1 qbr).f0) == 1) = true := beq_iff_eq.mpr c42
           have c42b1 : (((rd_T63 l1 qbr).f0) != 1) = false := bne_eq_false_iff_eq.mpr c42
           clear c42
           replace H := Option.bind_eq_some_iff.mp H
           obtain ⟨⟨t203, t204, t205, t206⟩, A430, H⟩ := H
           replace H : ((octet_Reader_Int.f k2 qbw qbx qby ((rd_T63 l1 qbr).f1)).bind fun bt209 => (j2 k2 l1 qbr (bt209.1 == t206) bt209.2.1 bt209.2.2.1 bt209.2.2.2 t203 t204 t205)) = some r := H
           have A43 := qau A430
           clear A430
           replace H := Option.bind_eq_some_iff.mp H
           obtain ⟨⟨t209, t210, t211, t212⟩, A440, H⟩ := H
           replace H : (j2 k2 l1 qbr (t209 == t206) t210 t211 t212 t203 t204 t205) = some r := H
           have A44 := qau A440
           clear A440
           have H' := qau H
           clear H
           try go_wp2
           have n0_ : Aside0 ((((w19.setCell ⟨qbl, 0, none⟩ (.string qbj)).setCell ⟨qbl, 1, none⟩ (.int .i64 qbi)).setCell ⟨qbl, 2, none⟩ (.int .i64 qbh)).heap[qbn]? = some (.cells #[.string qbj, .int .i64 qbi, .int .i64 qbh] 61 (0, 0))) := ⟨by (with_reducible repeat (first | refine qae ?_ _ | refine qag ?_ | refine qaf ?_ _)); refine blk_far ?_ qbu.out _; (with_reducible repeat (first | refine qae ?_ _ | refine qag ?_ | refine qaf ?_ _)); refine blk_far ?_ qbu.out _; (with_reducible repeat (first | refine qae ?_ _ | refine qag ?_ | refine qaf ?_ _)); refine blk_far ?_ qbu.out _; (with_reducible repeat (first | refine qae ?_ _ | refine qag ?_ | refine qaf ?_ _)); exact qbk.out⟩
           have n1_ : Aside0 ((((w19.setCell ⟨qbl, 0, none⟩ (.string qbj)).setCell ⟨qbl, 1, none⟩ (.int .i64 qbi)).setCell ⟨qbl, 2, none⟩ (.int .i64 qbh)).heap[qbl]? = some (.cells #[.string qbj, .int .i64 qbi, .int .i64 qbh] 61 (0, 0))) := ⟨by (with_reducible repeat (first | refine qae ?_ _ | refine qag ?_ | refine qaf ?_ _)); refine blk_put (cs := #[.string qbj, .int .i64 qbi, .int .i64 0]) ?_ 2 _ rfl; (with_reducible repeat (first | refine qae ?_ _ | refine qag ?_ | refine qaf ?_ _)); refine blk_put (cs := #[.string qbj, .int .i64 0, .int .i64 0]) ?_ 1 _ rfl; (with_reducible repeat (first | refine qae ?_ _ | refine qag ?_ | refine qaf ?_ _)); refine blk_put (cs := #[.string (⟨#[]⟩ : ByteArray), .int .i64 0, .int .i64 0]) ?_ 0 _ rfl; (with_reducible repeat (first | refine qae ?_ _ | refine qag ?_ | refine qaf ?_ _)); exact qbm.out⟩
           have n2_ : Aside0 (IsS83 w (((w19.setCell ⟨qbl, 0, none⟩ (.string qbj)).setCell ⟨qbl, 1, none⟩ (.int .i64 qbi)).setCell ⟨qbl, 2, none⟩ (.int .i64 qbh)) g186 qbw qbx qby) := ⟨by repeat (first | (with_reducible first | exact qbg.out | apply qax | apply qba | apply qaz | apply qbd | apply qbe | apply qbf | refine qbb ?_ qbo.out _ | refine qbb ?_ qbp.out _) | exact qbg.out)⟩
           have n3_ : Aside0 (Below w.heap.size w (((w19.setCell ⟨qbl, 0, none⟩ (.string qbj)).setCell ⟨qbl, 1, none⟩ (.int .i64 qbi)).setCell ⟨qbl, 2, none⟩ (.int .i64 qbh))) := ⟨by repeat (first | (with_reducible first | exact HB.out | apply qak | apply qai | apply qaj | refine qah ?_ (qbc qbg.out) | refine qah ?_ qbv.out | refine qah ?_ qbz.out) | exact HB.out)⟩
           (try clear qbk)
           (try clear qbm)
           (try clear qbg)
           (try clear HB)
           generalize (((w19.setCell ⟨qbl, 0, none⟩ (.string qbj)).setCell ⟨qbl, 1, none⟩ (.int .i64 qbi)).setCell ⟨qbl, 2, none⟩ (.int .i64 qbh)) = w45 at n0_ n1_ n2_ n3_ ⊢
           have qbk := n0_
           have qbm := n1_
           have qbg := n2_
           have HB := n3_
           clear n0_ n1_ n2_ n3_
           have n0_ := qau (qag qbk.out)
           have n1_ := qau (qag qbm.out)
           have n2_ := qau (qaz qbg.out)
           have n3_ := qau (qaj HB.out)
           clear qbk
           clear qbm
           clear qbg
           clear HB
           have qbk := n0_
           have qbm := n1_
           have qbg := n2_
           have HB := n3_
           clear n0_ n1_ n2_ n3_
           have p202 : 0 ≤ (qbr : Int) := of_decide_eq_true (by first | (with_reducible assumption) | assumption)
           have q202 : qbr < (l1.length : Int) := of_decide_eq_true (by first | (with_reducible assumption) | assumption)
           obtain ⟨ad202, e202, hx202_0, hx202_1⟩ := at_T63 HR1.out qbr p202 q202
           have hw202_1 := hx202_1
           have hw202_0 := hx202_0
           obtain rfl : ad190 = ad202 := (by injection e202)
           replace hx202_0 := (HB.out.cell (qad w _ hx202_0)).trans hx202_0
           replace hx202_1 := (HB.out.cell (qad w _ hx202_1)).trans hx202_1
           replace p202 := eq_true p202
           replace q202 := eq_true q202
           refine start_ (n := 13) (S := fun w' => w'.cell? ⟨qbn, 0, none⟩ = some (.string qbj) ∧ w'.cell? ⟨qbn, 1, none⟩ = some (.int .i64 qbi) ∧ w'.cell? ⟨qbn, 2, none⟩ = some (.int .i64 qbh) ∧ w'.cell? (ad190.add ((qbr).toNat * 2)) = some (.int .i64 ((rd_T63 l1 qbr).f0)) ∧ w'.cell? ⟨(ad190.add ((qbr).toNat * 2)).block, (ad190.add ((qbr).toNat * 2)).off + 1, none⟩ = some (.int .i64 ((rd_T63 l1 qbr).f1))) (ds := []) sq19 (by kernel_rfl) rfl rfl ⟨(qal qbk.out 0).trans rfl, (qal qbk.out 1).trans rfl, (qal qbk.out 2).trans rfl, ((HB.out.cell (qad w _ hw202_0)).trans hw202_0), ((HB.out.cell (qad w _ hw202_1)).trans hw202_1)⟩ (fun hHeld => ?_); refine with_tabW tab18 bits18 (fun HT_ HW_ => ?_)
           generalize w45.drew = w46 at qbk qbm qbg HB hx202_0 hx202_1 hHeld ⊢
           refine pure_ (i := 1) (N := some 76) (v := ?_) (a' := ?_) sq20 rfl rfl (any_of HT_.out (by kernel_rfl)) (fun _ _ _ h => h) (Or.inl ⟨by rfl, ?_⟩) ?_ ?_
           rotate_left
           ·intro w'
            go_simp
            with_reducible rfl
           rotate_left
           ·simp only [Act.put, qaa, qab, qac, i64_w, i32_w]
            rfl
           refine pure_ (i := 2) (N := some 77) (v := ?_) (a' := ?_) sq21 rfl rfl (any_of HT_.out (by kernel_rfl)) (fun _ _ _ h => h) (Or.inl ⟨by rfl, ?_⟩) ?_ ?_
           rotate_left
           ·intro w'
            go_simp
            with_reducible rfl
           rotate_left
           ·simp only [Act.put, qaa, qab, qac, i64_w, i32_w]
            rfl
           refine pure_ (i := 3) (N := some 78) (v := ?_) (a' := ?_) sq22 rfl rfl (any_of HT_.out (by kernel_rfl)) (fun _ _ _ h => h) (Or.inl ⟨by rfl, ?_⟩) ?_ ?_
           rotate_left
           ·intro w'
            go_simp
            with_reducible rfl
           rotate_left
           ·simp only [Act.put, qaa, qab, qac, i64_w, i32_w]
            rfl
           refine pure_ (i := 4) (N := some 79) (v := ?_) (a' := ?_) sq23 rfl rfl (any_of HT_.out (by kernel_rfl)) (fun _ _ _ h => h) (Or.inl ⟨by rfl, ?_⟩) ?_ ?_
           rotate_left
           ·intro w'
            go_simp
            with_reducible rfl
           rotate_left
           ·simp only [Act.put, qaa, qab, qac, i64_w, i32_w]
            rfl
           refine take_ (i := 0) (N := some 75) (v := ?_) (a' := ?_) sq24 rfl rfl (take_ofW HT_.out HW_.out (by kernel_rfl)) (fun _ _ _ h => h) (Or.inl ⟨by rfl, ?_⟩) hHeld ?_ ?_
           rotate_left
           ·rintro w' ⟨s0, s1, s2, s3, s4⟩
            go_simp
            with_reducible rfl
           rotate_left
           ·simp only [Act.put, qaa, qab, qac, i64_w, i32_w]
            rfl
           refine take_ (i := 5) (N := some 80) (v := ?_) (a' := ?_) sq25 rfl rfl (take_ofW HT_.out HW_.out (by kernel_rfl)) (fun _ _ _ h => h) (Or.inl ⟨by rfl, ?_⟩) hHeld ?_ ?_
           rotate_left
           ·rintro w' ⟨s0, s1, s2, s3, s4⟩
            go_simp
            with_reducible rfl
           rotate_left
           ·simp only [Act.put, qaa, qab, qac, i64_w, i32_w]
            rfl
           refine join_ (σ := Nat) 2 sq26 (fun s_ => [(81, .tuple #[.agg #[.string t203, .int .i64 t204, .int .i64 t205], .int .i64 t206]), (12, .pointer (some ⟨s_, 0, none⟩)), (74, .tuple #[.agg #[.string t203, .int .i64 t204, .int .i64 t205], .int .i64 t206]), (82, .agg #[.string t203, .int .i64 t204, .int .i64 t205]), (83, .int .i64 t206)]) (fun s_ w' => (w'.cell? ⟨qbn, 0, none⟩ = some (.string qbj) ∧ w'.cell? ⟨qbn, 1, none⟩ = some (.int .i64 qbi) ∧ w'.cell? ⟨qbn, 2, none⟩ = some (.int .i64 qbh) ∧ w'.cell? (ad190.add ((qbr).toNat * 2)) = some (.int .i64 ((rd_T63 l1 qbr).f0)) ∧ w'.cell? ⟨(ad190.add ((qbr).toNat * 2)).block, (ad190.add ((qbr).toNat * 2)).off + 1, none⟩ = some (.int .i64 ((rd_T63 l1 qbr).f1))) ∧ (w'.heap[qbn]? = some (.cells #[.string qbj, .int .i64 qbi, .int .i64 qbh] 61 (0, 0))) ∧ (w'.heap[qbl]? = some (.cells #[.string qbj, .int .i64 qbi, .int .i64 qbh] 61 (0, 0))) ∧ (w'.heap[s_]? = some (.cells #[.string (⟨#[]⟩ : ByteArray), .int .i64 0, .int .i64 0] 61 (0, 0))) ∧ (w.heap.size ≤ s_) ∧ (w.heap.size ≤ s_) ∧ (g186 ≠ s_) ∧ (s_ ≠ g186) ∧ (qbn ≠ s_) ∧ (s_ ≠ qbn) ∧ (qbl ≠ s_) ∧ (s_ ≠ qbl) ∧ (IsS83 w w' g186 qbw qbx qby) ∧ (Below w.heap.size w w')) ?_ ?_
           rotate_left
           ·intro hCont
            refine two_ (i := 6) (j := 10) (Ni := some 81) (Nj := some 12) sq27 sq28 rfl rfl rfl rfl (two_of HT_.out (by kernel_rfl)) (by decide) (by decide) (fun K hK => ?_) (fun K hK => ?_)
            ·skip
             refine goes_ Try.func31 (by kernel_rfl) rfl #[.agg #[.string qbj, .int .i64 qbi, .int .i64 qbh], .int .i64 ((rd_T63 l1 qbr).f1)] (by rfl) rfl rfl (by (try simp only [qar, qas, qat]); first | done | rfl) ?_
             with_reducible refine (stowageref01_Reader_Int.calls k2 qbj qbi qbh ((rd_T63 l1 qbr).f1) t203 t204 t205 t206 _ A43.out).mono ?_
             rintro e w47 ⟨rfl, hb⟩
             refine ⟨_, rfl, ?_⟩
             have n0_ := qau (blk_below (g := qbn) (o := .cells #[.string qbj, .int .i64 qbi, .int .i64 qbh] 61 (0, 0)) (by (with_reducible repeat (first | refine qae ?_ _ | refine qag ?_ | refine qaf ?_ _)); exact qbk.out) hb)
             have n1_ := qau (qay (by repeat (first | (with_reducible first | exact qbg.out | apply qax | apply qba | apply qaz | apply qbd | apply qbe | apply qbf | refine qbb ?_ qbo.out _ | refine qbb ?_ qbp.out _) | exact qbg.out)) hb)
             have n2_ := qau (blk_below (g := qbl) (o := .cells #[.string qbj, .int .i64 qbi, .int .i64 qbh] 61 (0, 0)) (by (with_reducible repeat (first | refine qae ?_ _ | refine qag ?_ | refine qaf ?_ _)); exact qbm.out) hb)
             have n3_ := qau (below_step (by repeat (first | (with_reducible first | exact HB.out | apply qak | apply qai | apply qaj | refine qah ?_ (qbc qbg.out) | refine qah ?_ qbv.out | refine qah ?_ qbz.out) | exact HB.out)) hb)
             clear qbk
             clear qbg
             clear qbm
             clear HB
             have qbk := n0_
             have qbg := n1_
             have qbm := n2_
             have HB := n3_
             clear n0_ n1_ n2_ n3_
             (try clear hb)
             (try clear hb2)
             (try clear hk)
             (try clear hi)
             refine hK.out _ _ ⟨(qal qbk.out 0).trans rfl, (qal qbk.out 1).trans rfl, (qal qbk.out 2).trans rfl, ((HB.out.cell (qad w _ hw202_0)).trans hw202_0), ((HB.out.cell (qad w _ hw202_1)).trans hw202_1)⟩ (fun hHeld => ?_)
             clear hK K
             refine norm_ (a' := ?_) ?_ ?_
             rotate_left
             ·show Act.put _ (some 81) _ = _
              simp only [Act.put, qaa, qab, qac, i64_w, i32_w]
              rfl
             refine pure_ (i := 7) (N := some 74) (v := ?_) (a' := ?_) sq29 rfl rfl (any_of HT_.out (by kernel_rfl)) (fun _ _ _ h => h) (Or.inl ⟨by rfl, ?_⟩) ?_ ?_
             rotate_left
             ·intro w'
              go_simp
              with_reducible rfl
             rotate_left
             ·simp only [Act.put, qaa, qab, qac, i64_w, i32_w]
              rfl
             refine pure_ (i := 8) (N := some 82) (v := ?_) (a' := ?_) sq30 rfl rfl (any_of HT_.out (by kernel_rfl)) (fun _ _ _ h => h) (Or.inl ⟨by rfl, ?_⟩) ?_ ?_
             rotate_left
             ·intro w'
              go_simp
              with_reducible rfl
             rotate_left
             ·simp only [Act.put, qaa, qab, qac, i64_w, i32_w]
              rfl
             refine pure_ (i := 9) (N := some 83) (v := ?_) (a' := ?_) sq31 rfl rfl (any_of HT_.out (by kernel_rfl)) (fun _ _ _ h => h) (Or.inl ⟨by rfl, ?_⟩) ?_ ?_
             rotate_left
             ·intro w'
              go_simp
              with_reducible rfl
             rotate_left
             ·simp only [Act.put, qaa, qab, qac, i64_w, i32_w]
              rfl
             refine one_ (i := 10) (N := some 12) sq26 rfl rfl (one_of HT_.out (by kernel_rfl)) (by decide) (fun K hK => ?_)
             refine box_step ?hg (N := 12) ?hd (cs := #[.string (⟨#[]⟩ : ByteArray), .int .i64 0, .int .i64 0]) (t := 61) ?hr ?_; (case hd => rfl); (case hg => rfl); (case hr => first | (go_simp; done) | (go_simp; rfl))
             intro qcb hg w48 hbox hb
             have n0_ := qau (blk_below (g := qbn) (o := .cells #[.string qbj, .int .i64 qbi, .int .i64 qbh] 61 (0, 0)) (by (with_reducible repeat (first | refine qae ?_ _ | refine qag ?_ | refine qaf ?_ _)); exact qbk.out) hb)
             have n1_ := qau (qay (by repeat (first | (with_reducible first | exact qbg.out | apply qax | apply qba | apply qaz | apply qbd | apply qbe | apply qbf | refine qbb ?_ qbo.out _ | refine qbb ?_ qbp.out _) | exact qbg.out)) hb)
             have n2_ := qau (blk_below (g := qbl) (o := .cells #[.string qbj, .int .i64 qbi, .int .i64 qbh] 61 (0, 0)) (by (with_reducible repeat (first | refine qae ?_ _ | refine qag ?_ | refine qaf ?_ _)); exact qbm.out) hb)
             have n3_ := qau (below_step (by repeat (first | (with_reducible first | exact HB.out | apply qak | apply qai | apply qaj | refine qah ?_ (qbc qbg.out) | refine qah ?_ qbv.out | refine qah ?_ qbz.out) | exact HB.out)) hb)
             have n4_ := qau (hbox)
             have n5_ := qau ((by rw [hg]; exact (below_size (by repeat (first | (with_reducible first | exact HB.out | apply qak | apply qai | apply qaj | refine qah ?_ (qbc qbg.out) | refine qah ?_ qbv.out | refine qah ?_ qbz.out) | exact HB.out))) : w.heap.size ≤ qcb))
             have n6_ := qau ((by rw [hg]; exact (below_size (by repeat (first | (with_reducible first | exact HB.out | apply qak | apply qai | apply qaj | refine qah ?_ (qbc qbg.out) | refine qah ?_ qbv.out | refine qah ?_ qbz.out) | exact HB.out))) : w.heap.size ≤ qcb))
             have n7_ := qau ((by rw [hg]; exact qap (blk_lt (g := qbn) (o := .cells #[.string qbj, .int .i64 qbi, .int .i64 qbh] 61 (0, 0)) (by (with_reducible repeat (first | refine qae ?_ _ | refine qag ?_ | refine qaf ?_ _)); exact qbk.out)) : qbn ≠ qcb))
             have n8_ := qau ((by rw [hg]; exact qaq (blk_lt (g := qbn) (o := .cells #[.string qbj, .int .i64 qbi, .int .i64 qbh] 61 (0, 0)) (by (with_reducible repeat (first | refine qae ?_ _ | refine qag ?_ | refine qaf ?_ _)); exact qbk.out)) : qcb ≠ qbn))
             have n9_ := qau ((by rw [hg]; exact qap (blk_lt (g := qbl) (o := .cells #[.string qbj, .int .i64 qbi, .int .i64 qbh] 61 (0, 0)) (by (with_reducible repeat (first | refine qae ?_ _ | refine qag ?_ | refine qaf ?_ _)); exact qbm.out)) : qbl ≠ qcb))
             have n10_ := qau ((by rw [hg]; exact qaq (blk_lt (g := qbl) (o := .cells #[.string qbj, .int .i64 qbi, .int .i64 qbh] 61 (0, 0)) (by (with_reducible repeat (first | refine qae ?_ _ | refine qag ?_ | refine qaf ?_ _)); exact qbm.out)) : qcb ≠ qbl))
             have n11_ := qau ((by rw [hg]; exact qap (IsS83.lt (show IsS83 w _ g186 qbw qbx qby from by repeat (first | (with_reducible first | exact qbg.out | apply qax | apply qba | apply qaz | apply qbd | apply qbe | apply qbf | refine qbb ?_ qbo.out _ | refine qbb ?_ qbp.out _) | exact qbg.out))) : g186 ≠ qcb))
             have n12_ := qau ((by rw [hg]; exact qaq (IsS83.lt (show IsS83 w _ g186 qbw qbx qby from by repeat (first | (with_reducible first | exact qbg.out | apply qax | apply qba | apply qaz | apply qbd | apply qbe | apply qbf | refine qbb ?_ qbo.out _ | refine qbb ?_ qbp.out _) | exact qbg.out))) : qcb ≠ g186))
             clear qbk
             clear qbg
             clear qbm
             clear HB
             have qbk := n0_
             have qbg := n1_
             have qbm := n2_
             have HB := n3_
             have qcq := n4_
             have qck := n5_
             have qdq := n6_
             have qch := n7_
             have qdd := n8_
             have qcu := n9_
             have qcv := n10_
             have qcz := n11_
             have qdn := n12_
             clear n0_ n1_ n2_ n3_ n4_ n5_ n6_ n7_ n8_ n9_ n10_ n11_ n12_
             clear hb hbox hg
             refine hK.out _ _ ⟨(qal qbk.out 0).trans rfl, (qal qbk.out 1).trans rfl, (qal qbk.out 2).trans rfl, ((HB.out.cell (qad w _ hw202_0)).trans hw202_0), ((HB.out.cell (qad w _ hw202_1)).trans hw202_1)⟩ (fun hHeld => ?_)
             clear hK K
             refine norm_ (a' := ?_) ?_ ?_
             rotate_left
             ·show Act.put _ (some 12) _ = _
              simp only [Act.put, qaa, qab, qac, i64_w, i32_w]
              rfl
             exact norm_ (by simp only [putAll, Act.put, qaa, qab, qac]) (hCont (qcb) _ ⟨hHeld, (by (with_reducible repeat (first | refine qae ?_ _ | refine qag ?_ | refine qaf ?_ _)); exact qbk.out), (by (with_reducible repeat (first | refine qae ?_ _ | refine qag ?_ | refine qaf ?_ _)); exact qbm.out), (by (with_reducible repeat (first | refine qae ?_ _ | refine qag ?_ | refine qaf ?_ _)); exact qcq.out), qck.out, qdq.out, qcz.out, qdn.out, qch.out, qdd.out, qcu.out, qcv.out, (by repeat (first | (with_reducible first | exact qbg.out | apply qax | apply qba | apply qaz | apply qbd | apply qbe | apply qbf | refine qbb ?_ qbo.out _ | refine qbb ?_ qbp.out _ | refine qbb ?_ qcz.out _) | exact qbg.out)), (by repeat (first | (with_reducible first | exact HB.out | apply qak | apply qai | apply qaj | refine qah ?_ (qbc qbg.out) | refine qah ?_ qbv.out | refine qah ?_ qbz.out | refine qah ?_ qdq.out) | exact HB.out))⟩)
            ·skip
             refine box_step ?hg (N := 12) ?hd (cs := #[.string (⟨#[]⟩ : ByteArray), .int .i64 0, .int .i64 0]) (t := 61) ?hr ?_; (case hd => rfl); (case hg => rfl); (case hr => first | (go_simp; done) | (go_simp; rfl))
             intro qcb hg w47 hbox hb
             have n0_ := qau (blk_below (g := qbn) (o := .cells #[.string qbj, .int .i64 qbi, .int .i64 qbh] 61 (0, 0)) (by (with_reducible repeat (first | refine qae ?_ _ | refine qag ?_ | refine qaf ?_ _)); exact qbk.out) hb)
             have n1_ := qau (qay (by repeat (first | (with_reducible first | exact qbg.out | apply qax | apply qba | apply qaz | apply qbd | apply qbe | apply qbf | refine qbb ?_ qbo.out _ | refine qbb ?_ qbp.out _) | exact qbg.out)) hb)
             have n2_ := qau (blk_below (g := qbl) (o := .cells #[.string qbj, .int .i64 qbi, .int .i64 qbh] 61 (0, 0)) (by (with_reducible repeat (first | refine qae ?_ _ | refine qag ?_ | refine qaf ?_ _)); exact qbm.out) hb)
             have n3_ := qau (below_step (by repeat (first | (with_reducible first | exact HB.out | apply qak | apply qai | apply qaj | refine qah ?_ (qbc qbg.out) | refine qah ?_ qbv.out | refine qah ?_ qbz.out) | exact HB.out)) hb)
             have n4_ := qau (hbox)
             have n5_ := qau ((by rw [hg]; exact (below_size (by repeat (first | (with_reducible first | exact HB.out | apply qak | apply qai | apply qaj | refine qah ?_ (qbc qbg.out) | refine qah ?_ qbv.out | refine qah ?_ qbz.out) | exact HB.out))) : w.heap.size ≤ qcb))
             have n6_ := qau ((by rw [hg]; exact (below_size (by repeat (first | (with_reducible first | exact HB.out | apply qak | apply qai | apply qaj | refine qah ?_ (qbc qbg.out) | refine qah ?_ qbv.out | refine qah ?_ qbz.out) | exact HB.out))) : w.heap.size ≤ qcb))
             have n7_ := qau ((by rw [hg]; exact qap (blk_lt (g := qbn) (o := .cells #[.string qbj, .int .i64 qbi, .int .i64 qbh] 61 (0, 0)) (by (with_reducible repeat (first | refine qae ?_ _ | refine qag ?_ | refine qaf ?_ _)); exact qbk.out)) : qbn ≠ qcb))
             have n8_ := qau ((by rw [hg]; exact qaq (blk_lt (g := qbn) (o := .cells #[.string qbj, .int .i64 qbi, .int .i64 qbh] 61 (0, 0)) (by (with_reducible repeat (first | refine qae ?_ _ | refine qag ?_ | refine qaf ?_ _)); exact qbk.out)) : qcb ≠ qbn))
             have n9_ := qau ((by rw [hg]; exact qap (blk_lt (g := qbl) (o := .cells #[.string qbj, .int .i64 qbi, .int .i64 qbh] 61 (0, 0)) (by (with_reducible repeat (first | refine qae ?_ _ | refine qag ?_ | refine qaf ?_ _)); exact qbm.out)) : qbl ≠ qcb))
             have n10_ := qau ((by rw [hg]; exact qaq (blk_lt (g := qbl) (o := .cells #[.string qbj, .int .i64 qbi, .int .i64 qbh] 61 (0, 0)) (by (with_reducible repeat (first | refine qae ?_ _ | refine qag ?_ | refine qaf ?_ _)); exact qbm.out)) : qcb ≠ qbl))
             have n11_ := qau ((by rw [hg]; exact qap (IsS83.lt (show IsS83 w _ g186 qbw qbx qby from by repeat (first | (with_reducible first | exact qbg.out | apply qax | apply qba | apply qaz | apply qbd | apply qbe | apply qbf | refine qbb ?_ qbo.out _ | refine qbb ?_ qbp.out _) | exact qbg.out))) : g186 ≠ qcb))
             have n12_ := qau ((by rw [hg]; exact qaq (IsS83.lt (show IsS83 w _ g186 qbw qbx qby from by repeat (first | (with_reducible first | exact qbg.out | apply qax | apply qba | apply qaz | apply qbd | apply qbe | apply qbf | refine qbb ?_ qbo.out _ | refine qbb ?_ qbp.out _) | exact qbg.out))) : qcb ≠ g186))
             clear qbk
             clear qbg
             clear qbm
             clear HB
             have qbk := n0_
             have qbg := n1_
             have qbm := n2_
             have HB := n3_
             have qcq := n4_
             have qck := n5_
             have qdq := n6_
             have qch := n7_
             have qdd := n8_
             have qcu := n9_
             have qcv := n10_
             have qcz := n11_
             have qdn := n12_
             clear n0_ n1_ n2_ n3_ n4_ n5_ n6_ n7_ n8_ n9_ n10_ n11_ n12_
             clear hb hbox hg
             refine hK.out _ _ ⟨(qal qbk.out 0).trans rfl, (qal qbk.out 1).trans rfl, (qal qbk.out 2).trans rfl, ((HB.out.cell (qad w _ hw202_0)).trans hw202_0), ((HB.out.cell (qad w _ hw202_1)).trans hw202_1)⟩ (fun hHeld => ?_)
             clear hK K
             refine norm_ (a' := ?_) ?_ ?_
             rotate_left
             ·show Act.put _ (some 12) _ = _
              simp only [Act.put, qaa, qab, qac, i64_w, i32_w]
              rfl
             refine one_ (i := 6) (N := some 81) sq32 rfl rfl (one_of HT_.out (by kernel_rfl)) (by decide) (fun K hK => ?_)
             refine goes_ Try.func31 (by kernel_rfl) rfl #[.agg #[.string qbj, .int .i64 qbi, .int .i64 qbh], .int .i64 ((rd_T63 l1 qbr).f1)] (by rfl) rfl rfl (by (try simp only [qar, qas, qat]); first | done | rfl) ?_
             with_reducible refine (stowageref01_Reader_Int.calls k2 qbj qbi qbh ((rd_T63 l1 qbr).f1) t203 t204 t205 t206 _ A43.out).mono ?_
             rintro e w48 ⟨rfl, hb⟩
             refine ⟨_, rfl, ?_⟩
             have n0_ := qau (blk_below (g := qbn) (o := .cells #[.string qbj, .int .i64 qbi, .int .i64 qbh] 61 (0, 0)) (by (with_reducible repeat (first | refine qae ?_ _ | refine qag ?_ | refine qaf ?_ _)); exact qbk.out) hb)
             have n1_ := qau (qay (by repeat (first | (with_reducible first | exact qbg.out | apply qax | apply qba | apply qaz | apply qbd | apply qbe | apply qbf | refine qbb ?_ qbo.out _ | refine qbb ?_ qbp.out _ | refine qbb ?_ qcz.out _) | exact qbg.out)) hb)
             have n2_ := qau (blk_below (g := qbl) (o := .cells #[.string qbj, .int .i64 qbi, .int .i64 qbh] 61 (0, 0)) (by (with_reducible repeat (first | refine qae ?_ _ | refine qag ?_ | refine qaf ?_ _)); exact qbm.out) hb)
             have n3_ := qau (blk_below (g := qcb) (o := .cells #[.string (⟨#[]⟩ : ByteArray), .int .i64 0, .int .i64 0] 61 (0, 0)) (by (with_reducible repeat (first | refine qae ?_ _ | refine qag ?_ | refine qaf ?_ _)); exact qcq.out) hb)
             have n4_ := qau (below_step (by repeat (first | (with_reducible first | exact HB.out | apply qak | apply qai | apply qaj | refine qah ?_ (qbc qbg.out) | refine qah ?_ qbv.out | refine qah ?_ qbz.out | refine qah ?_ qdq.out) | exact HB.out)) hb)
             clear qbk
             clear qbg
             clear qbm
             clear qcq
             clear HB
             have qbk := n0_
             have qbg := n1_
             have qbm := n2_
             have qcq := n3_
             have HB := n4_
             clear n0_ n1_ n2_ n3_ n4_
             (try clear hb)
             (try clear hb2)
             (try clear hk)
             (try clear hi)
             refine hK.out _ _ ⟨(qal qbk.out 0).trans rfl, (qal qbk.out 1).trans rfl, (qal qbk.out 2).trans rfl, ((HB.out.cell (qad w _ hw202_0)).trans hw202_0), ((HB.out.cell (qad w _ hw202_1)).trans hw202_1)⟩ (fun hHeld => ?_)
             clear hK K
             refine norm_ (a' := ?_) ?_ ?_
             rotate_left
             ·show Act.put _ (some 81) _ = _
              simp only [Act.put, qaa, qab, qac, i64_w, i32_w]
              rfl
             refine pure_ (i := 7) (N := some 74) (v := ?_) (a' := ?_) sq33 rfl rfl (any_of HT_.out (by kernel_rfl)) (fun _ _ _ h => h) (Or.inl ⟨by rfl, ?_⟩) ?_ ?_
             rotate_left
             ·intro w'
              go_simp
              with_reducible rfl
             rotate_left
             ·simp only [Act.put, qaa, qab, qac, i64_w, i32_w]
              rfl
             refine pure_ (i := 8) (N := some 82) (v := ?_) (a' := ?_) sq34 rfl rfl (any_of HT_.out (by kernel_rfl)) (fun _ _ _ h => h) (Or.inl ⟨by rfl, ?_⟩) ?_ ?_
             rotate_left
             ·intro w'
              go_simp
              with_reducible rfl
             rotate_left
             ·simp only [Act.put, qaa, qab, qac, i64_w, i32_w]
              rfl
             refine pure_ (i := 9) (N := some 83) (v := ?_) (a' := ?_) sq26 rfl rfl (any_of HT_.out (by kernel_rfl)) (fun _ _ _ h => h) (Or.inl ⟨by rfl, ?_⟩) ?_ ?_
             rotate_left
             ·intro w'
              go_simp
              with_reducible rfl
             rotate_left
             ·simp only [Act.put, qaa, qab, qac, i64_w, i32_w]
              rfl
             exact norm_ (by simp only [putAll, Act.put, qaa, qab, qac]) (hCont (qcb) _ ⟨hHeld, (by (with_reducible repeat (first | refine qae ?_ _ | refine qag ?_ | refine qaf ?_ _)); exact qbk.out), (by (with_reducible repeat (first | refine qae ?_ _ | refine qag ?_ | refine qaf ?_ _)); exact qbm.out), (by (with_reducible repeat (first | refine qae ?_ _ | refine qag ?_ | refine qaf ?_ _)); exact qcq.out), qck.out, qdq.out, qcz.out, qdn.out, qch.out, qdd.out, qcu.out, qcv.out, (by repeat (first | (with_reducible first | exact qbg.out | apply qax | apply qba | apply qaz | apply qbd | apply qbe | apply qbf | refine qbb ?_ qbo.out _ | refine qbb ?_ qbp.out _ | refine qbb ?_ qcz.out _) | exact qbg.out)), (by repeat (first | (with_reducible first | exact HB.out | apply qak | apply qai | apply qaj | refine qah ?_ (qbc qbg.out) | refine qah ?_ qbv.out | refine qah ?_ qbz.out | refine qah ?_ qdq.out) | exact HB.out))⟩)
           rintro qcb w49 ⟨hS_, h0_, h1_, h2_, h3_, h4_, h5_, h6_, h7_, h8_, h9_, h10_, h11_, h12_⟩
           have n0_ : Aside0 (w49.heap[qbn]? = some (.cells #[.string qbj, .int .i64 qbi, .int .i64 qbh] 61 (0, 0))) := ⟨h0_⟩
           have n1_ : Aside0 (w49.heap[qbl]? = some (.cells #[.string qbj, .int .i64 qbi, .int .i64 qbh] 61 (0, 0))) := ⟨h1_⟩
           have n2_ : Aside0 (w49.heap[qcb]? = some (.cells #[.string (⟨#[]⟩ : ByteArray), .int .i64 0, .int .i64 0] 61 (0, 0))) := ⟨h2_⟩
           have n3_ : Aside0 (w.heap.size ≤ qcb) := ⟨h3_⟩
           have n4_ : Aside0 (w.heap.size ≤ qcb) := ⟨h4_⟩
           have n5_ : Aside0 (g186 ≠ qcb) := ⟨h5_⟩
           have n6_ : Aside0 (qcb ≠ g186) := ⟨h6_⟩
           have n7_ : Aside0 (qbn ≠ qcb) := ⟨h7_⟩
           have n8_ : Aside0 (qcb ≠ qbn) := ⟨h8_⟩
           have n9_ : Aside0 (qbl ≠ qcb) := ⟨h9_⟩
           have n10_ : Aside0 (qcb ≠ qbl) := ⟨h10_⟩
           have n11_ : Aside0 (IsS83 w w49 g186 qbw qbx qby) := ⟨h11_⟩
           have n12_ : Aside0 (Below w.heap.size w w49) := ⟨h12_⟩
           clear qbk
           clear qbm
           clear qbg
           clear HB
           clear h0_ h1_ h2_ h3_ h4_ h5_ h6_ h7_ h8_ h9_ h10_ h11_ h12_
           have qbk := n0_
           have qbm := n1_
           have qcq := n2_
           have qck := n3_
           have qdq := n4_
           have qcz := n5_
           have qdn := n6_
           have qch := n7_
           have qdd := n8_
           have qcu := n9_
           have qcv := n10_
           have qbg := n11_
           have HB := n12_
           clear n0_ n1_ n2_ n3_ n4_ n5_ n6_ n7_ n8_ n9_ n10_ n11_ n12_
           have hHeld : w49.cell? ⟨qbn, 0, none⟩ = some (.string qbj) ∧ w49.cell? ⟨qbn, 1, none⟩ = some (.int .i64 qbi) ∧ w49.cell? ⟨qbn, 2, none⟩ = some (.int .i64 qbh) ∧ w49.cell? (ad190.add ((qbr).toNat * 2)) = some (.int .i64 ((rd_T63 l1 qbr).f0)) ∧ w49.cell? ⟨(ad190.add ((qbr).toNat * 2)).block, (ad190.add ((qbr).toNat * 2)).off + 1, none⟩ = some (.int .i64 ((rd_T63 l1 qbr).f1)) := hS_
           refine norm_ (a' := ?_) ?_ ?_
           rotate_left
           ·simp only [putAll, Act.put, qaa, qab, qac]
            rfl
           refine one_ (i := 11) (N := none) sq35 rfl rfl (one_of HT_.out (by kernel_rfl)) (by decide) (fun K hK => ?_)
           have hs50 : w49.cell? ⟨qcb, 0, none⟩ = some (.string (⟨#[]⟩ : ByteArray)) := (qal qcq.out 0).trans rfl
           have hfs50 := qam qcq.out 0
           have hns50_0 := qch.out
           have hns50_1 := qcu.out
           have hms50_0 := qdd.out
           have hms50_1 := qcv.out
           have hs51 : w49.cell? ⟨qcb, 1, none⟩ = some (.int .i64 0) := (qal qcq.out 1).trans rfl
           have hfs51 := qam qcq.out 1
           have hns51_0 := qch.out
           have hns51_1 := qcu.out
           have hms51_0 := qdd.out
           have hms51_1 := qcv.out
           have hs52 : w49.cell? ⟨qcb, 2, none⟩ = some (.int .i64 0) := (qal qcq.out 2).trans rfl
           have hfs52 := qam qcq.out 2
           have hns52_0 := qch.out
           have hns52_1 := qcu.out
           have hms52_0 := qdd.out
           have hms52_1 := qcv.out
           refine skip_ (w1 := ?_) (by rfl) rfl ?_ ?_
           rotate_left
           ·go_simp
            rfl
           refine hK.out _ _ ⟨((qan (p := ⟨qcb, _, none⟩) qch.out _).trans (((qan (p := ⟨qcb, _, none⟩) qch.out _).trans (((qan (p := ⟨qcb, _, none⟩) qch.out _).trans (hHeld.1)))))), ((qan (p := ⟨qcb, _, none⟩) qch.out _).trans (((qan (p := ⟨qcb, _, none⟩) qch.out _).trans (((qan (p := ⟨qcb, _, none⟩) qch.out _).trans (hHeld.2.1)))))), ((qan (p := ⟨qcb, _, none⟩) qch.out _).trans (((qan (p := ⟨qcb, _, none⟩) qch.out _).trans (((qan (p := ⟨qcb, _, none⟩) qch.out _).trans (hHeld.2.2.1)))))), ((qan (p := ⟨qcb, _, none⟩) (by first | exact qap (qao (by have := qad _ _ hw202_0; first | rwa [qav] at this | exact this) qck.out) | (rw [qav]; exact qap (qao (by have := qad _ _ hw202_0; first | rwa [qav] at this | exact this) qck.out)) | (show (Addr.add _ _).block ≠ _; rw [qav]; exact qap (qao (by have := qad _ _ hw202_0; first | rwa [qav] at this | exact this) qck.out)) | (dsimp only; exact qap (qao (by have := qad _ _ hw202_0; first | rwa [qav] at this | exact this) qck.out))) _).trans (((qan (p := ⟨qcb, _, none⟩) (by first | exact qap (qao (by have := qad _ _ hw202_0; first | rwa [qav] at this | exact this) qck.out) | (rw [qav]; exact qap (qao (by have := qad _ _ hw202_0; first | rwa [qav] at this | exact this) qck.out)) | (show (Addr.add _ _).block ≠ _; rw [qav]; exact qap (qao (by have := qad _ _ hw202_0; first | rwa [qav] at this | exact this) qck.out)) | (dsimp only; exact qap (qao (by have := qad _ _ hw202_0; first | rwa [qav] at this | exact this) qck.out))) _).trans (((qan (p := ⟨qcb, _, none⟩) (by first | exact qap (qao (by have := qad _ _ hw202_0; first | rwa [qav] at this | exact this) qck.out) | (rw [qav]; exact qap (qao (by have := qad _ _ hw202_0; first | rwa [qav] at this | exact this) qck.out)) | (show (Addr.add _ _).block ≠ _; rw [qav]; exact qap (qao (by have := qad _ _ hw202_0; first | rwa [qav] at this | exact this) qck.out)) | (dsimp only; exact qap (qao (by have := qad _ _ hw202_0; first | rwa [qav] at this | exact this) qck.out))) _).trans (hHeld.2.2.2.1)))))), ((qan (p := ⟨qcb, _, none⟩) (by first | exact qap (qao (by have := qad _ _ hw202_1; first | rwa [qav] at this | exact this) qck.out) | (rw [qav]; exact qap (qao (by have := qad _ _ hw202_1; first | rwa [qav] at this | exact this) qck.out)) | (show (Addr.add _ _).block ≠ _; rw [qav]; exact qap (qao (by have := qad _ _ hw202_1; first | rwa [qav] at this | exact this) qck.out)) | (dsimp only; exact qap (qao (by have := qad _ _ hw202_1; first | rwa [qav] at this | exact this) qck.out))) _).trans (((qan (p := ⟨qcb, _, none⟩) (by first | exact qap (qao (by have := qad _ _ hw202_1; first | rwa [qav] at this | exact this) qck.out) | (rw [qav]; exact qap (qao (by have := qad _ _ hw202_1; first | rwa [qav] at this | exact this) qck.out)) | (show (Addr.add _ _).block ≠ _; rw [qav]; exact qap (qao (by have := qad _ _ hw202_1; first | rwa [qav] at this | exact this) qck.out)) | (dsimp only; exact qap (qao (by have := qad _ _ hw202_1; first | rwa [qav] at this | exact this) qck.out))) _).trans (((qan (p := ⟨qcb, _, none⟩) (by first | exact qap (qao (by have := qad _ _ hw202_1; first | rwa [qav] at this | exact this) qck.out) | (rw [qav]; exact qap (qao (by have := qad _ _ hw202_1; first | rwa [qav] at this | exact this) qck.out)) | (show (Addr.add _ _).block ≠ _; rw [qav]; exact qap (qao (by have := qad _ _ hw202_1; first | rwa [qav] at this | exact this) qck.out)) | (dsimp only; exact qap (qao (by have := qad _ _ hw202_1; first | rwa [qav] at this | exact this) qck.out))) _).trans (hHeld.2.2.2.2))))))⟩ (fun hHeld => ?_)
           clear hK K
           refine pure_ (i := 12) (N := some 13) (v := ?_) (a' := ?_) sq36 rfl rfl (any_of HT_.out (by kernel_rfl)) (fun _ _ _ h => h) (Or.inl ⟨by rfl, ?_⟩) ?_ ?_
           rotate_left
           ·intro w'
            go_simp
            with_reducible rfl
           rotate_left
           ·simp only [Act.put, qaa, qab, qac, i64_w, i32_w]
            rfl
           refine done_ (done_of HT_.out (by kernel_rfl)) ?_
           have hnb53 := qdd.out
           have hnc53 := qch.out
           have hnb54 := qcv.out
           have hnc54 := qcu.out
           have hnb55 := qdn.out
           have hnc55 := qcz.out
           have qjn : w49.cell? ⟨qcb, 0, none⟩ = some (.string (⟨#[]⟩ : ByteArray)) := (qal qcq.out 0).trans rfl
           have qjo : w49.cell? ⟨qcb, 1, none⟩ = some (.int .i64 0) := (qal qcq.out 1).trans rfl
           have qjp : w49.cell? ⟨qcb, 2, none⟩ = some (.int .i64 0) := (qal qcq.out 2).trans rfl
           have qjq := qam qcq.out 0
           have qjr := qam qcq.out 1
           have qjs := qam qcq.out 2
           have hnb57 := qcd.out
           have hnc57 := qbu.out
           have hnb58 := qce.out
           have hnc58 := qbp.out
           have qjt : w49.cell? ⟨qbl, 0, none⟩ = some (.string qbj) := (qal qbm.out 0).trans rfl
           have qju : w49.cell? ⟨qbl, 1, none⟩ = some (.int .i64 qbi) := (qal qbm.out 1).trans rfl
           have qjv : w49.cell? ⟨qbl, 2, none⟩ = some (.int .i64 qbh) := (qal qbm.out 2).trans rfl
           have qjw := qam qbm.out 0
           have qjx := qam qbm.out 1
           have qjy := qam qbm.out 2
           have p208 : 0 ≤ (qbr : Int) := of_decide_eq_true (by first | (with_reducible assumption) | assumption)
           have q208 : qbr < (l1.length : Int) := of_decide_eq_true (by first | (with_reducible assumption) | assumption)
           obtain ⟨ad208, e208, hx208_0, hx208_1⟩ := at_T63 HR1.out qbr p208 q208
           obtain rfl : ad190 = ad208 := (by injection e208)
           have hn208_0 : ad190.block ≠ qcb := qap (qao (by have := qad _ _ hx208_0; first | rwa [qav] at this | exact this) qck.out)
           have hn208_1 : ad190.block ≠ qcb := qap (qao (by have := qad _ _ hx208_0; first | rwa [qav] at this | exact this) qck.out)
           have hn208_2 : ad190.block ≠ qcb := qap (qao (by have := qad _ _ hx208_0; first | rwa [qav] at this | exact this) qck.out)
           have hn208_3 : ad190.block ≠ qbl := qap (qao (by have := qad _ _ hx208_0; first | rwa [qav] at this | exact this) qdb.out)
           have hn208_4 : ad190.block ≠ qbl := qap (qao (by have := qad _ _ hx208_0; first | rwa [qav] at this | exact this) qdb.out)
           have hn208_5 : ad190.block ≠ qbl := qap (qao (by have := qad _ _ hx208_0; first | rwa [qav] at this | exact this) qdb.out)
           replace hx208_0 := (HB.out.cell (qad w _ hx208_0)).trans hx208_0
           replace hx208_1 := (HB.out.cell (qad w _ hx208_1)).trans hx208_1
           replace hx208_0 := (qan (p := ⟨qcb, 0, none⟩) (by first | (rw [qav]; exact hn208_0) | (show (Addr.add _ _).block ≠ _; rw [qav]; exact hn208_0) | exact hn208_0) (.string t203)).trans hx208_0
           replace hx208_1 := (qan (p := ⟨qcb, 0, none⟩) (by first | (rw [qav]; exact hn208_0) | (show (Addr.add _ _).block ≠ _; rw [qav]; exact hn208_0) | exact hn208_0) (.string t203)).trans hx208_1
           replace hx208_0 := (qan (p := ⟨qcb, 1, none⟩) (by first | (rw [qav]; exact hn208_1) | (show (Addr.add _ _).block ≠ _; rw [qav]; exact hn208_1) | exact hn208_1) (.int .i64 t204)).trans hx208_0
           replace hx208_1 := (qan (p := ⟨qcb, 1, none⟩) (by first | (rw [qav]; exact hn208_1) | (show (Addr.add _ _).block ≠ _; rw [qav]; exact hn208_1) | exact hn208_1) (.int .i64 t204)).trans hx208_1
           replace hx208_0 := (qan (p := ⟨qcb, 2, none⟩) (by first | (rw [qav]; exact hn208_2) | (show (Addr.add _ _).block ≠ _; rw [qav]; exact hn208_2) | exact hn208_2) (.int .i64 t205)).trans hx208_0
           replace hx208_1 := (qan (p := ⟨qcb, 2, none⟩) (by first | (rw [qav]; exact hn208_2) | (show (Addr.add _ _).block ≠ _; rw [qav]; exact hn208_2) | exact hn208_2) (.int .i64 t205)).trans hx208_1
           replace hx208_0 := (qan (p := ⟨qbl, 0, none⟩) (by first | (rw [qav]; exact hn208_3) | (show (Addr.add _ _).block ≠ _; rw [qav]; exact hn208_3) | exact hn208_3) (.string t203)).trans hx208_0
           replace hx208_1 := (qan (p := ⟨qbl, 0, none⟩) (by first | (rw [qav]; exact hn208_3) | (show (Addr.add _ _).block ≠ _; rw [qav]; exact hn208_3) | exact hn208_3) (.string t203)).trans hx208_1
           replace hx208_0 := (qan (p := ⟨qbl, 1, none⟩) (by first | (rw [qav]; exact hn208_4) | (show (Addr.add _ _).block ≠ _; rw [qav]; exact hn208_4) | exact hn208_4) (.int .i64 t204)).trans hx208_0
           replace hx208_1 := (qan (p := ⟨qbl, 1, none⟩) (by first | (rw [qav]; exact hn208_4) | (show (Addr.add _ _).block ≠ _; rw [qav]; exact hn208_4) | exact hn208_4) (.int .i64 t204)).trans hx208_1
           replace hx208_0 := (qan (p := ⟨qbl, 2, none⟩) (by first | (rw [qav]; exact hn208_5) | (show (Addr.add _ _).block ≠ _; rw [qav]; exact hn208_5) | exact hn208_5) (.int .i64 t205)).trans hx208_0
           replace hx208_1 := (qan (p := ⟨qbl, 2, none⟩) (by first | (rw [qav]; exact hn208_5) | (show (Addr.add _ _).block ≠ _; rw [qav]; exact hn208_5) | exact hn208_5) (.int .i64 t205)).trans hx208_1
           clear hn208_0
           clear hn208_1
           clear hn208_2
           clear hn208_3
           clear hn208_4
           clear hn208_5
           replace p208 := eq_true p208
           replace q208 := eq_true q208
           try go_wp2_with (first | ((with_reducible refine gate_callee (f := 32) rfl ?_); refine goesL_ (some 91) rfl rfl Try.func32 (by kernel_rfl) rfl #[.pointer (some ⟨g186, 0, none⟩), .int .i64 ((rd_T63 l1 qbr).f1)] rfl (by (try simp only [qar, qas, qat]); first | done | rfl) ?_; (with_reducible refine (octet_Reader_Int.calls k2 g186 qbw qbx qby ((rd_T63 l1 qbr).f1) t209 t210 t211 t212 w _ ?side1 ?side2 A44.out).mono ?_); (case side1 => repeat (first | (with_reducible first | exact qbg.out | apply qax | apply qba | apply qaz | apply qbd | apply qbe | apply qbf | refine qbb ?_ qbo.out _ | refine qbb ?_ qbp.out _ | refine qbb ?_ qcz.out _) | exact qbg.out)); (case side2 => repeat (first | (with_reducible first | exact HB.out | apply qak | apply qai | apply qaj | refine qah ?_ (qbc qbg.out) | refine qah ?_ qbv.out | refine qah ?_ qbz.out | refine qah ?_ qdq.out) | exact HB.out)); rintro e w60 ⟨rfl, hi, hb, hk⟩; refine ⟨_, rfl, ?_⟩; have n0_ := qau (KeepBut.blk hk (g' := qbn) (o := .cells #[.string qbj, .int .i64 qbi, .int .i64 qbh] 61 (0, 0)) (by (with_reducible repeat (first | refine qae ?_ _ | refine qag ?_ | refine qaf ?_ _)); refine blk_far ?_ qbu.out _; (with_reducible repeat (first | refine qae ?_ _ | refine qag ?_ | refine qaf ?_ _)); refine blk_far ?_ qbu.out _; (with_reducible repeat (first | refine qae ?_ _ | refine qag ?_ | refine qaf ?_ _)); refine blk_far ?_ qbu.out _; (with_reducible repeat (first | refine qae ?_ _ | refine qag ?_ | refine qaf ?_ _)); refine blk_far ?_ qch.out _; (with_reducible repeat (first | refine qae ?_ _ | refine qag ?_ | refine qaf ?_ _)); refine blk_far ?_ qch.out _; (with_reducible repeat (first | refine qae ?_ _ | refine qag ?_ | refine qaf ?_ _)); refine blk_far ?_ qch.out _; (with_reducible repeat (first | refine qae ?_ _ | refine qag ?_ | refine qaf ?_ _)); exact qbk.out) qcf.out (by simp)); have n1_ := qau (KeepBut.blk hk (g' := qbl) (o := .cells #[.string t203, .int .i64 t204, .int .i64 t205] 61 (0, 0)) (by (with_reducible repeat (first | refine qae ?_ _ | refine qag ?_ | refine qaf ?_ _)); refine blk_put (cs := #[.string t203, .int .i64 t204, .int .i64 qbh]) ?_ 2 _ rfl; (with_reducible repeat (first | refine qae ?_ _ | refine qag ?_ | refine qaf ?_ _)); refine blk_put (cs := #[.string t203, .int .i64 qbi, .int .i64 qbh]) ?_ 1 _ rfl; (with_reducible repeat (first | refine qae ?_ _ | refine qag ?_ | refine qaf ?_ _)); refine blk_put (cs := #[.string qbj, .int .i64 qbi, .int .i64 qbh]) ?_ 0 _ rfl; (with_reducible repeat (first | refine qae ?_ _ | refine qag ?_ | refine qaf ?_ _)); refine blk_far ?_ qcu.out _; (with_reducible repeat (first | refine qae ?_ _ | refine qag ?_ | refine qaf ?_ _)); refine blk_far ?_ qcu.out _; (with_reducible repeat (first | refine qae ?_ _ | refine qag ?_ | refine qaf ?_ _)); refine blk_far ?_ qcu.out _; (with_reducible repeat (first | refine qae ?_ _ | refine qag ?_ | refine qaf ?_ _)); exact qbm.out) qce.out (by simp)); have n2_ := qau (KeepBut.blk hk (g' := qcb) (o := .cells #[.string t203, .int .i64 t204, .int .i64 t205] 61 (0, 0)) (by (with_reducible repeat (first | refine qae ?_ _ | refine qag ?_ | refine qaf ?_ _)); refine blk_far ?_ qcv.out _; (with_reducible repeat (first | refine qae ?_ _ | refine qag ?_ | refine qaf ?_ _)); refine blk_far ?_ qcv.out _; (with_reducible repeat (first | refine qae ?_ _ | refine qag ?_ | refine qaf ?_ _)); refine blk_far ?_ qcv.out _; (with_reducible repeat (first | refine qae ?_ _ | refine qag ?_ | refine qaf ?_ _)); refine blk_put (cs := #[.string t203, .int .i64 t204, .int .i64 0]) ?_ 2 _ rfl; (with_reducible repeat (first | refine qae ?_ _ | refine qag ?_ | refine qaf ?_ _)); refine blk_put (cs := #[.string t203, .int .i64 0, .int .i64 0]) ?_ 1 _ rfl; (with_reducible repeat (first | refine qae ?_ _ | refine qag ?_ | refine qaf ?_ _)); refine blk_put (cs := #[.string (⟨#[]⟩ : ByteArray), .int .i64 0, .int .i64 0]) ?_ 0 _ rfl; (with_reducible repeat (first | refine qae ?_ _ | refine qag ?_ | refine qaf ?_ _)); exact qcq.out) qdn.out (by simp)); have n3_ := qau (hb); have n4_ := qau (hi); clear qbk; clear qbm; clear qcq; clear HB; clear qbg; have qbk := n0_; have qbm := n1_; have qcq := n2_; have HB := n3_; have qbg := n4_; clear n0_ n1_ n2_ n3_ n4_; (try clear hb); (try clear hk); (try clear hi)))
           go_meet
           case rel => exact ⟨_, ((t209 == t206)), (t210), (t211), (t212), (t203), (t204), (t205), (by first | rfl | (simp; done) | (simp [*]; done)), H', ⟨by have := HJ3.out; have := HK2.out; first | omega | exact Nat.le_refl _⟩, ⟨by (with_reducible repeat (first | refine qae ?_ _ | refine qag ?_ | refine qaf ?_ _)); exact qbk.out⟩, ⟨by (with_reducible repeat (first | refine qae ?_ _ | refine qag ?_ | refine qaf ?_ _)); exact qbm.out⟩, ⟨by repeat (first | (with_reducible first | exact qbg.out | apply qax | apply qba | apply qaz | apply qbd | apply qbe | apply qbf | refine qbb ?_ qbo.out _ | refine qbb ?_ qbp.out _ | refine qbb ?_ qcz.out _) | exact qbg.out)⟩, ⟨by repeat (first | (with_reducible first | exact HB.out | apply qak | apply qai | apply qaj | refine qah ?_ (qbc qbg.out) | refine qah ?_ qbv.out | refine qah ?_ qbz.out | refine qah ?_ qdq.out) | exact HB.out)⟩⟩
          ·focus
           rw [if_neg c42] at H
           have c42b0 : (((rd_T63 l1 qbr).f0) == 1) = false := beq_eq_false_iff_ne.mpr c42
           have c42b1 : (((rd_T63 l1 qbr).f0) != 1) = true := bne_iff_ne.mpr c42
           by_cases c61 : ((rd_T63 l1 qbr).f0) = 2
           ·focus
            rw [if_pos c61] at H
            have c61b0 : (((rd_T63 l1 qbr).f0) == 2) = true := beq_iff_eq.mpr c61
            have c61b1 : (((rd_T63 l1 qbr).f0) != 2) = false := bne_eq_false_iff_eq.mpr c61
            clear c61
            replace H := Option.bind_eq_some_iff.mp H
            obtain ⟨⟨t214, t215, t216, t217⟩, A620, H⟩ := H
            replace H : ((octet_Reader_Text.f k2 qbw qbx qby ((rd_T63 l1 qbr).f1)).bind fun bt220 => (j2 k2 l1 qbr (bt220.1.toList == t217.toList) bt220.2.1 bt220.2.2.1 bt220.2.2.2 t214 t215 t216)) = some r := H
            have A62 := qau A620
            clear A620
            replace H := Option.bind_eq_some_iff.mp H
            obtain ⟨⟨t220, t221, t222, t223⟩, A630, H⟩ := H
            replace H : (j2 k2 l1 qbr (t220.toList == t217.toList) t221 t222 t223 t214 t215 t216) = some r := H
            have A63 := qau A630
            clear A630
            have H' := qau H
            clear H
            try go_wp2
            have n0_ : Aside0 ((((w19.setCell ⟨qbl, 0, none⟩ (.string qbj)).setCell ⟨qbl, 1, none⟩ (.int .i64 qbi)).setCell ⟨qbl, 2, none⟩ (.int .i64 qbh)).heap[qbn]? = some (.cells #[.string qbj, .int .i64 qbi, .int .i64 qbh] 61 (0, 0))) := ⟨by (with_reducible repeat (first | refine qae ?_ _ | refine qag ?_ | refine qaf ?_ _)); refine blk_far ?_ qbu.out _; (with_reducible repeat (first | refine qae ?_ _ | refine qag ?_ | refine qaf ?_ _)); refine blk_far ?_ qbu.out _; (with_reducible repeat (first | refine qae ?_ _ | refine qag ?_ | refine qaf ?_ _)); refine blk_far ?_ qbu.out _; (with_reducible repeat (first | refine qae ?_ _ | refine qag ?_ | refine qaf ?_ _)); exact qbk.out⟩
            have n1_ : Aside0 ((((w19.setCell ⟨qbl, 0, none⟩ (.string qbj)).setCell ⟨qbl, 1, none⟩ (.int .i64 qbi)).setCell ⟨qbl, 2, none⟩ (.int .i64 qbh)).heap[qbl]? = some (.cells #[.string qbj, .int .i64 qbi, .int .i64 qbh] 61 (0, 0))) := ⟨by (with_reducible repeat (first | refine qae ?_ _ | refine qag ?_ | refine qaf ?_ _)); refine blk_put (cs := #[.string qbj, .int .i64 qbi, .int .i64 0]) ?_ 2 _ rfl; (with_reducible repeat (first | refine qae ?_ _ | refine qag ?_ | refine qaf ?_ _)); refine blk_put (cs := #[.string qbj, .int .i64 0, .int .i64 0]) ?_ 1 _ rfl; (with_reducible repeat (first | refine qae ?_ _ | refine qag ?_ | refine qaf ?_ _)); refine blk_put (cs := #[.string (⟨#[]⟩ : ByteArray), .int .i64 0, .int .i64 0]) ?_ 0 _ rfl; (with_reducible repeat (first | refine qae ?_ _ | refine qag ?_ | refine qaf ?_ _)); exact qbm.out⟩
            have n2_ : Aside0 (IsS83 w (((w19.setCell ⟨qbl, 0, none⟩ (.string qbj)).setCell ⟨qbl, 1, none⟩ (.int .i64 qbi)).setCell ⟨qbl, 2, none⟩ (.int .i64 qbh)) g186 qbw qbx qby) := ⟨by repeat (first | (with_reducible first | exact qbg.out | apply qax | apply qba | apply qaz | apply qbd | apply qbe | apply qbf | refine qbb ?_ qbo.out _ | refine qbb ?_ qbp.out _) | exact qbg.out)⟩
            have n3_ : Aside0 (Below w.heap.size w (((w19.setCell ⟨qbl, 0, none⟩ (.string qbj)).setCell ⟨qbl, 1, none⟩ (.int .i64 qbi)).setCell ⟨qbl, 2, none⟩ (.int .i64 qbh))) := ⟨by repeat (first | (with_reducible first | exact HB.out | apply qak | apply qai | apply qaj | refine qah ?_ (qbc qbg.out) | refine qah ?_ qbv.out | refine qah ?_ qbz.out) | exact HB.out)⟩
            (try clear qbk)
            (try clear qbm)
            (try clear qbg)
            (try clear HB)
            generalize (((w19.setCell ⟨qbl, 0, none⟩ (.string qbj)).setCell ⟨qbl, 1, none⟩ (.int .i64 qbi)).setCell ⟨qbl, 2, none⟩ (.int .i64 qbh)) = w64 at n0_ n1_ n2_ n3_ ⊢
            have qbk := n0_
            have qbm := n1_
            have qbg := n2_
            have HB := n3_
            clear n0_ n1_ n2_ n3_
            have n0_ := qau (qag qbk.out)
            have n1_ := qau (qag qbm.out)
            have n2_ := qau (qaz qbg.out)
            have n3_ := qau (qaj HB.out)
            clear qbk
            clear qbm
            clear qbg
            clear HB
            have qbk := n0_
            have qbm := n1_
            have qbg := n2_
            have HB := n3_
            clear n0_ n1_ n2_ n3_
            have p213 : 0 ≤ (qbr : Int) := of_decide_eq_true (by first | (with_reducible assumption) | assumption)
            have q213 : qbr < (l1.length : Int) := of_decide_eq_true (by first | (with_reducible assumption) | assumption)
            obtain ⟨ad213, e213, hx213_0, hx213_1⟩ := at_T63 HR1.out qbr p213 q213
            have hw213_1 := hx213_1
            have hw213_0 := hx213_0
            obtain rfl : ad190 = ad213 := (by injection e213)
            replace hx213_0 := (HB.out.cell (qad w _ hx213_0)).trans hx213_0
            replace hx213_1 := (HB.out.cell (qad w _ hx213_1)).trans hx213_1
            replace p213 := eq_true p213
            replace q213 := eq_true q213
            refine start_ (n := 13) (S := fun w' => w'.cell? ⟨qbn, 0, none⟩ = some (.string qbj) ∧ w'.cell? ⟨qbn, 1, none⟩ = some (.int .i64 qbi) ∧ w'.cell? ⟨qbn, 2, none⟩ = some (.int .i64 qbh) ∧ w'.cell? (ad190.add ((qbr).toNat * 2)) = some (.int .i64 ((rd_T63 l1 qbr).f0)) ∧ w'.cell? ⟨(ad190.add ((qbr).toNat * 2)).block, (ad190.add ((qbr).toNat * 2)).off + 1, none⟩ = some (.int .i64 ((rd_T63 l1 qbr).f1))) (ds := []) sq19 (by kernel_rfl) rfl rfl ⟨(qal qbk.out 0).trans rfl, (qal qbk.out 1).trans rfl, (qal qbk.out 2).trans rfl, ((HB.out.cell (qad w _ hw213_0)).trans hw213_0), ((HB.out.cell (qad w _ hw213_1)).trans hw213_1)⟩ (fun hHeld => ?_); refine with_tabW tab22 bits22 (fun HT_ HW_ => ?_)
            generalize w64.drew = w65 at qbk qbm qbg HB hx213_0 hx213_1 hHeld ⊢
            refine pure_ (i := 1) (N := some 98) (v := ?_) (a' := ?_) sq20 rfl rfl (any_of HT_.out (by kernel_rfl)) (fun _ _ _ h => h) (Or.inl ⟨by rfl, ?_⟩) ?_ ?_
            rotate_left
            ·intro w'
             go_simp
             with_reducible rfl
            rotate_left
            ·simp only [Act.put, qaa, qab, qac, i64_w, i32_w]
             rfl
            refine pure_ (i := 2) (N := some 99) (v := ?_) (a' := ?_) sq21 rfl rfl (any_of HT_.out (by kernel_rfl)) (fun _ _ _ h => h) (Or.inl ⟨by rfl, ?_⟩) ?_ ?_
            rotate_left
            ·intro w'
             go_simp
             with_reducible rfl
            rotate_left
            ·simp only [Act.put, qaa, qab, qac, i64_w, i32_w]
             rfl
            refine pure_ (i := 3) (N := some 100) (v := ?_) (a' := ?_) sq22 rfl rfl (any_of HT_.out (by kernel_rfl)) (fun _ _ _ h => h) (Or.inl ⟨by rfl, ?_⟩) ?_ ?_
            rotate_left
            ·intro w'
             go_simp
             with_reducible rfl
            rotate_left
            ·simp only [Act.put, qaa, qab, qac, i64_w, i32_w]
             rfl
            refine pure_ (i := 4) (N := some 101) (v := ?_) (a' := ?_) sq23 rfl rfl (any_of HT_.out (by kernel_rfl)) (fun _ _ _ h => h) (Or.inl ⟨by rfl, ?_⟩) ?_ ?_
            rotate_left
            ·intro w'
             go_simp
             with_reducible rfl
            rotate_left
            ·simp only [Act.put, qaa, qab, qac, i64_w, i32_w]
             rfl
            refine take_ (i := 0) (N := some 97) (v := ?_) (a' := ?_) sq24 rfl rfl (take_ofW HT_.out HW_.out (by kernel_rfl)) (fun _ _ _ h => h) (Or.inl ⟨by rfl, ?_⟩) hHeld ?_ ?_
            rotate_left
            ·rintro w' ⟨s0, s1, s2, s3, s4⟩
             go_simp
             with_reducible rfl
            rotate_left
            ·simp only [Act.put, qaa, qab, qac, i64_w, i32_w]
             rfl
            refine take_ (i := 5) (N := some 102) (v := ?_) (a' := ?_) sq25 rfl rfl (take_ofW HT_.out HW_.out (by kernel_rfl)) (fun _ _ _ h => h) (Or.inl ⟨by rfl, ?_⟩) hHeld ?_ ?_
            rotate_left
            ·rintro w' ⟨s0, s1, s2, s3, s4⟩
             go_simp
             with_reducible rfl
            rotate_left
            ·simp only [Act.put, qaa, qab, qac, i64_w, i32_w]
             rfl
            refine join_ (σ := Nat) 2 sq26 (fun s_ => [(103, .tuple #[.agg #[.string t214, .int .i64 t215, .int .i64 t216], .string t217]), (14, .pointer (some ⟨s_, 0, none⟩)), (96, .tuple #[.agg #[.string t214, .int .i64 t215, .int .i64 t216], .string t217]), (104, .agg #[.string t214, .int .i64 t215, .int .i64 t216]), (105, .string t217)]) (fun s_ w' => (w'.cell? ⟨qbn, 0, none⟩ = some (.string qbj) ∧ w'.cell? ⟨qbn, 1, none⟩ = some (.int .i64 qbi) ∧ w'.cell? ⟨qbn, 2, none⟩ = some (.int .i64 qbh) ∧ w'.cell? (ad190.add ((qbr).toNat * 2)) = some (.int .i64 ((rd_T63 l1 qbr).f0)) ∧ w'.cell? ⟨(ad190.add ((qbr).toNat * 2)).block, (ad190.add ((qbr).toNat * 2)).off + 1, none⟩ = some (.int .i64 ((rd_T63 l1 qbr).f1))) ∧ (w'.heap[qbn]? = some (.cells #[.string qbj, .int .i64 qbi, .int .i64 qbh] 61 (0, 0))) ∧ (w'.heap[qbl]? = some (.cells #[.string qbj, .int .i64 qbi, .int .i64 qbh] 61 (0, 0))) ∧ (w'.heap[s_]? = some (.cells #[.string (⟨#[]⟩ : ByteArray), .int .i64 0, .int .i64 0] 61 (0, 0))) ∧ (w.heap.size ≤ s_) ∧ (w.heap.size ≤ s_) ∧ (g186 ≠ s_) ∧ (s_ ≠ g186) ∧ (qbn ≠ s_) ∧ (s_ ≠ qbn) ∧ (qbl ≠ s_) ∧ (s_ ≠ qbl) ∧ (IsS83 w w' g186 qbw qbx qby) ∧ (Below w.heap.size w w')) ?_ ?_
            rotate_left
            ·intro hCont
             refine two_ (i := 6) (j := 10) (Ni := some 103) (Nj := some 14) sq27 sq28 rfl rfl rfl rfl (two_of HT_.out (by kernel_rfl)) (by decide) (by decide) (fun K hK => ?_) (fun K hK => ?_)
             ·skip
              refine goes_ Try.func33 (by kernel_rfl) rfl #[.agg #[.string qbj, .int .i64 qbi, .int .i64 qbh], .int .i64 ((rd_T63 l1 qbr).f1)] (by rfl) rfl rfl (by (try simp only [qar, qas, qat]); first | done | rfl) ?_
              with_reducible refine (stowageref01_Reader_Text.calls k2 qbj qbi qbh ((rd_T63 l1 qbr).f1) t214 t215 t216 t217 _ A62.out).mono ?_
              rintro e w66 ⟨rfl, hb⟩
              refine ⟨_, rfl, ?_⟩
              have n0_ := qau (blk_below (g := qbn) (o := .cells #[.string qbj, .int .i64 qbi, .int .i64 qbh] 61 (0, 0)) (by (with_reducible repeat (first | refine qae ?_ _ | refine qag ?_ | refine qaf ?_ _)); exact qbk.out) hb)
              have n1_ := qau (qay (by repeat (first | (with_reducible first | exact qbg.out | apply qax | apply qba | apply qaz | apply qbd | apply qbe | apply qbf | refine qbb ?_ qbo.out _ | refine qbb ?_ qbp.out _) | exact qbg.out)) hb)
              have n2_ := qau (blk_below (g := qbl) (o := .cells #[.string qbj, .int .i64 qbi, .int .i64 qbh] 61 (0, 0)) (by (with_reducible repeat (first | refine qae ?_ _ | refine qag ?_ | refine qaf ?_ _)); exact qbm.out) hb)
              have n3_ := qau (below_step (by repeat (first | (with_reducible first | exact HB.out | apply qak | apply qai | apply qaj | refine qah ?_ (qbc qbg.out) | refine qah ?_ qbv.out | refine qah ?_ qbz.out) | exact HB.out)) hb)
              clear qbk
              clear qbg
              clear qbm
              clear HB
              have qbk := n0_
              have qbg := n1_
              have qbm := n2_
              have HB := n3_
              clear n0_ n1_ n2_ n3_
              (try clear hb)
              (try clear hb2)
              (try clear hk)
              (try clear hi)
              refine hK.out _ _ ⟨(qal qbk.out 0).trans rfl, (qal qbk.out 1).trans rfl, (qal qbk.out 2).trans rfl, ((HB.out.cell (qad w _ hw213_0)).trans hw213_0), ((HB.out.cell (qad w _ hw213_1)).trans hw213_1)⟩ (fun hHeld => ?_)
              clear hK K
              refine norm_ (a' := ?_) ?_ ?_
              rotate_left
              ·show Act.put _ (some 103) _ = _
               simp only [Act.put, qaa, qab, qac, i64_w, i32_w]
               rfl
              refine pure_ (i := 7) (N := some 96) (v := ?_) (a' := ?_) sq29 rfl rfl (any_of HT_.out (by kernel_rfl)) (fun _ _ _ h => h) (Or.inl ⟨by rfl, ?_⟩) ?_ ?_
              rotate_left
              ·intro w'
               go_simp
               with_reducible rfl
              rotate_left
              ·simp only [Act.put, qaa, qab, qac, i64_w, i32_w]
               rfl
              refine pure_ (i := 8) (N := some 104) (v := ?_) (a' := ?_) sq30 rfl rfl (any_of HT_.out (by kernel_rfl)) (fun _ _ _ h => h) (Or.inl ⟨by rfl, ?_⟩) ?_ ?_
              rotate_left
              ·intro w'
               go_simp
               with_reducible rfl
              rotate_left
              ·simp only [Act.put, qaa, qab, qac, i64_w, i32_w]
               rfl
              refine pure_ (i := 9) (N := some 105) (v := ?_) (a' := ?_) sq31 rfl rfl (any_of HT_.out (by kernel_rfl)) (fun _ _ _ h => h) (Or.inl ⟨by rfl, ?_⟩) ?_ ?_
              rotate_left
              ·intro w'
               go_simp
               with_reducible rfl
              rotate_left
              ·simp only [Act.put, qaa, qab, qac, i64_w, i32_w]
               rfl
              refine one_ (i := 10) (N := some 14) sq26 rfl rfl (one_of HT_.out (by kernel_rfl)) (by decide) (fun K hK => ?_)
              refine box_step ?hg (N := 14) ?hd (cs := #[.string (⟨#[]⟩ : ByteArray), .int .i64 0, .int .i64 0]) (t := 61) ?hr ?_; (case hd => rfl); (case hg => rfl); (case hr => first | (go_simp; done) | (go_simp; rfl))
              intro qcc hg w67 hbox hb
              have n0_ := qau (blk_below (g := qbn) (o := .cells #[.string qbj, .int .i64 qbi, .int .i64 qbh] 61 (0, 0)) (by (with_reducible repeat (first | refine qae ?_ _ | refine qag ?_ | refine qaf ?_ _)); exact qbk.out) hb)
              have n1_ := qau (qay (by repeat (first | (with_reducible first | exact qbg.out | apply qax | apply qba | apply qaz | apply qbd | apply qbe | apply qbf | refine qbb ?_ qbo.out _ | refine qbb ?_ qbp.out _) | exact qbg.out)) hb)
              have n2_ := qau (blk_below (g := qbl) (o := .cells #[.string qbj, .int .i64 qbi, .int .i64 qbh] 61 (0, 0)) (by (with_reducible repeat (first | refine qae ?_ _ | refine qag ?_ | refine qaf ?_ _)); exact qbm.out) hb)
              have n3_ := qau (below_step (by repeat (first | (with_reducible first | exact HB.out | apply qak | apply qai | apply qaj | refine qah ?_ (qbc qbg.out) | refine qah ?_ qbv.out | refine qah ?_ qbz.out) | exact HB.out)) hb)
              have n4_ := qau (hbox)
              have n5_ := qau ((by rw [hg]; exact (below_size (by repeat (first | (with_reducible first | exact HB.out | apply qak | apply qai | apply qaj | refine qah ?_ (qbc qbg.out) | refine qah ?_ qbv.out | refine qah ?_ qbz.out) | exact HB.out))) : w.heap.size ≤ qcc))
              have n6_ := qau ((by rw [hg]; exact (below_size (by repeat (first | (with_reducible first | exact HB.out | apply qak | apply qai | apply qaj | refine qah ?_ (qbc qbg.out) | refine qah ?_ qbv.out | refine qah ?_ qbz.out) | exact HB.out))) : w.heap.size ≤ qcc))
              have n7_ := qau ((by rw [hg]; exact qap (blk_lt (g := qbn) (o := .cells #[.string qbj, .int .i64 qbi, .int .i64 qbh] 61 (0, 0)) (by (with_reducible repeat (first | refine qae ?_ _ | refine qag ?_ | refine qaf ?_ _)); exact qbk.out)) : qbn ≠ qcc))
              have n8_ := qau ((by rw [hg]; exact qaq (blk_lt (g := qbn) (o := .cells #[.string qbj, .int .i64 qbi, .int .i64 qbh] 61 (0, 0)) (by (with_reducible repeat (first | refine qae ?_ _ | refine qag ?_ | refine qaf ?_ _)); exact qbk.out)) : qcc ≠ qbn))
              have n9_ := qau ((by rw [hg]; exact qap (blk_lt (g := qbl) (o := .cells #[.string qbj, .int .i64 qbi, .int .i64 qbh] 61 (0, 0)) (by (with_reducible repeat (first | refine qae ?_ _ | refine qag ?_ | refine qaf ?_ _)); exact qbm.out)) : qbl ≠ qcc))
              have n10_ := qau ((by rw [hg]; exact qaq (blk_lt (g := qbl) (o := .cells #[.string qbj, .int .i64 qbi, .int .i64 qbh] 61 (0, 0)) (by (with_reducible repeat (first | refine qae ?_ _ | refine qag ?_ | refine qaf ?_ _)); exact qbm.out)) : qcc ≠ qbl))
              have n11_ := qau ((by rw [hg]; exact qap (IsS83.lt (show IsS83 w _ g186 qbw qbx qby from by repeat (first | (with_reducible first | exact qbg.out | apply qax | apply qba | apply qaz | apply qbd | apply qbe | apply qbf | refine qbb ?_ qbo.out _ | refine qbb ?_ qbp.out _) | exact qbg.out))) : g186 ≠ qcc))
              have n12_ := qau ((by rw [hg]; exact qaq (IsS83.lt (show IsS83 w _ g186 qbw qbx qby from by repeat (first | (with_reducible first | exact qbg.out | apply qax | apply qba | apply qaz | apply qbd | apply qbe | apply qbf | refine qbb ?_ qbo.out _ | refine qbb ?_ qbp.out _) | exact qbg.out))) : qcc ≠ g186))
              clear qbk
              clear qbg
              clear qbm
              clear HB
              have qbk := n0_
              have qbg := n1_
              have qbm := n2_
              have HB := n3_
              have qcr := n4_
              have qcl := n5_
              have qdr := n6_
              have qci := n7_
              have qde := n8_
              have qcw := n9_
              have qcx := n10_
              have qda := n11_
              have qdo := n12_
              clear n0_ n1_ n2_ n3_ n4_ n5_ n6_ n7_ n8_ n9_ n10_ n11_ n12_
              clear hb hbox hg
              refine hK.out _ _ ⟨(qal qbk.out 0).trans rfl, (qal qbk.out 1).trans rfl, (qal qbk.out 2).trans rfl, ((HB.out.cell (qad w _ hw213_0)).trans hw213_0), ((HB.out.cell (qad w _ hw213_1)).trans hw213_1)⟩ (fun hHeld => ?_)
              clear hK K
              refine norm_ (a' := ?_) ?_ ?_
              rotate_left
              ·show Act.put _ (some 14) _ = _
               simp only [Act.put, qaa, qab, qac, i64_w, i32_w]
               rfl
              exact norm_ (by simp only [putAll, Act.put, qaa, qab, qac]) (hCont (qcc) _ ⟨hHeld, (by (with_reducible repeat (first | refine qae ?_ _ | refine qag ?_ | refine qaf ?_ _)); exact qbk.out), (by (with_reducible repeat (first | refine qae ?_ _ | refine qag ?_ | refine qaf ?_ _)); exact qbm.out), (by (with_reducible repeat (first | refine qae ?_ _ | refine qag ?_ | refine qaf ?_ _)); exact qcr.out), qcl.out, qdr.out, qda.out, qdo.out, qci.out, qde.out, qcw.out, qcx.out, (by repeat (first | (with_reducible first | exact qbg.out | apply qax | apply qba | apply qaz | apply qbd | apply qbe | apply qbf | refine qbb ?_ qbo.out _ | refine qbb ?_ qbp.out _ | refine qbb ?_ qda.out _) | exact qbg.out)), (by repeat (first | (with_reducible first | exact HB.out | apply qak | apply qai | apply qaj | refine qah ?_ (qbc qbg.out) | refine qah ?_ qbv.out | refine qah ?_ qbz.out | refine qah ?_ qdr.out) | exact HB.out))⟩)
             ·skip
              refine box_step ?hg (N := 14) ?hd (cs := #[.string (⟨#[]⟩ : ByteArray), .int .i64 0, .int .i64 0]) (t := 61) ?hr ?_; (case hd => rfl); (case hg => rfl); (case hr => first | (go_simp; done) | (go_simp; rfl))
              intro qcc hg w66 hbox hb
              have n0_ := qau (blk_below (g := qbn) (o := .cells #[.string qbj, .int .i64 qbi, .int .i64 qbh] 61 (0, 0)) (by (with_reducible repeat (first | refine qae ?_ _ | refine qag ?_ | refine qaf ?_ _)); exact qbk.out) hb)
              have n1_ := qau (qay (by repeat (first | (with_reducible first | exact qbg.out | apply qax | apply qba | apply qaz | apply qbd | apply qbe | apply qbf | refine qbb ?_ qbo.out _ | refine qbb ?_ qbp.out _) | exact qbg.out)) hb)
              have n2_ := qau (blk_below (g := qbl) (o := .cells #[.string qbj, .int .i64 qbi, .int .i64 qbh] 61 (0, 0)) (by (with_reducible repeat (first | refine qae ?_ _ | refine qag ?_ | refine qaf ?_ _)); exact qbm.out) hb)
              have n3_ := qau (below_step (by repeat (first | (with_reducible first | exact HB.out | apply qak | apply qai | apply qaj | refine qah ?_ (qbc qbg.out) | refine qah ?_ qbv.out | refine qah ?_ qbz.out) | exact HB.out)) hb)
              have n4_ := qau (hbox)
              have n5_ := qau ((by rw [hg]; exact (below_size (by repeat (first | (with_reducible first | exact HB.out | apply qak | apply qai | apply qaj | refine qah ?_ (qbc qbg.out) | refine qah ?_ qbv.out | refine qah ?_ qbz.out) | exact HB.out))) : w.heap.size ≤ qcc))
              have n6_ := qau ((by rw [hg]; exact (below_size (by repeat (first | (with_reducible first | exact HB.out | apply qak | apply qai | apply qaj | refine qah ?_ (qbc qbg.out) | refine qah ?_ qbv.out | refine qah ?_ qbz.out) | exact HB.out))) : w.heap.size ≤ qcc))
              have n7_ := qau ((by rw [hg]; exact qap (blk_lt (g := qbn) (o := .cells #[.string qbj, .int .i64 qbi, .int .i64 qbh] 61 (0, 0)) (by (with_reducible repeat (first | refine qae ?_ _ | refine qag ?_ | refine qaf ?_ _)); exact qbk.out)) : qbn ≠ qcc))
              have n8_ := qau ((by rw [hg]; exact qaq (blk_lt (g := qbn) (o := .cells #[.string qbj, .int .i64 qbi, .int .i64 qbh] 61 (0, 0)) (by (with_reducible repeat (first | refine qae ?_ _ | refine qag ?_ | refine qaf ?_ _)); exact qbk.out)) : qcc ≠ qbn))
              have n9_ := qau ((by rw [hg]; exact qap (blk_lt (g := qbl) (o := .cells #[.string qbj, .int .i64 qbi, .int .i64 qbh] 61 (0, 0)) (by (with_reducible repeat (first | refine qae ?_ _ | refine qag ?_ | refine qaf ?_ _)); exact qbm.out)) : qbl ≠ qcc))
              have n10_ := qau ((by rw [hg]; exact qaq (blk_lt (g := qbl) (o := .cells #[.string qbj, .int .i64 qbi, .int .i64 qbh] 61 (0, 0)) (by (with_reducible repeat (first | refine qae ?_ _ | refine qag ?_ | refine qaf ?_ _)); exact qbm.out)) : qcc ≠ qbl))
              have n11_ := qau ((by rw [hg]; exact qap (IsS83.lt (show IsS83 w _ g186 qbw qbx qby from by repeat (first | (with_reducible first | exact qbg.out | apply qax | apply qba | apply qaz | apply qbd | apply qbe | apply qbf | refine qbb ?_ qbo.out _ | refine qbb ?_ qbp.out _) | exact qbg.out))) : g186 ≠ qcc))
              have n12_ := qau ((by rw [hg]; exact qaq (IsS83.lt (show IsS83 w _ g186 qbw qbx qby from by repeat (first | (with_reducible first | exact qbg.out | apply qax | apply qba | apply qaz | apply qbd | apply qbe | apply qbf | refine qbb ?_ qbo.out _ | refine qbb ?_ qbp.out _) | exact qbg.out))) : qcc ≠ g186))
              clear qbk
              clear qbg
              clear qbm
              clear HB
              have qbk := n0_
              have qbg := n1_
              have qbm := n2_
              have HB := n3_
              have qcr := n4_
              have qcl := n5_
              have qdr := n6_
              have qci := n7_
              have qde := n8_
              have qcw := n9_
              have qcx := n10_
              have qda := n11_
              have qdo := n12_
              clear n0_ n1_ n2_ n3_ n4_ n5_ n6_ n7_ n8_ n9_ n10_ n11_ n12_
              clear hb hbox hg
              refine hK.out _ _ ⟨(qal qbk.out 0).trans rfl, (qal qbk.out 1).trans rfl, (qal qbk.out 2).trans rfl, ((HB.out.cell (qad w _ hw213_0)).trans hw213_0), ((HB.out.cell (qad w _ hw213_1)).trans hw213_1)⟩ (fun hHeld => ?_)
              clear hK K
              refine norm_ (a' := ?_) ?_ ?_
              rotate_left
              ·show Act.put _ (some 14) _ = _
               simp only [Act.put, qaa, qab, qac, i64_w, i32_w]
               rfl
              refine one_ (i := 6) (N := some 103) sq32 rfl rfl (one_of HT_.out (by kernel_rfl)) (by decide) (fun K hK => ?_)
              refine goes_ Try.func33 (by kernel_rfl) rfl #[.agg #[.string qbj, .int .i64 qbi, .int .i64 qbh], .int .i64 ((rd_T63 l1 qbr).f1)] (by rfl) rfl rfl (by (try simp only [qar, qas, qat]); first | done | rfl) ?_
              with_reducible refine (stowageref01_Reader_Text.calls k2 qbj qbi qbh ((rd_T63 l1 qbr).f1) t214 t215 t216 t217 _ A62.out).mono ?_
              rintro e w67 ⟨rfl, hb⟩
              refine ⟨_, rfl, ?_⟩
              have n0_ := qau (blk_below (g := qbn) (o := .cells #[.string qbj, .int .i64 qbi, .int .i64 qbh] 61 (0, 0)) (by (with_reducible repeat (first | refine qae ?_ _ | refine qag ?_ | refine qaf ?_ _)); exact qbk.out) hb)
              have n1_ := qau (qay (by repeat (first | (with_reducible first | exact qbg.out | apply qax | apply qba | apply qaz | apply qbd | apply qbe | apply qbf | refine qbb ?_ qbo.out _ | refine qbb ?_ qbp.out _ | refine qbb ?_ qda.out _) | exact qbg.out)) hb)
              have n2_ := qau (blk_below (g := qbl) (o := .cells #[.string qbj, .int .i64 qbi, .int .i64 qbh] 61 (0, 0)) (by (with_reducible repeat (first | refine qae ?_ _ | refine qag ?_ | refine qaf ?_ _)); exact qbm.out) hb)
              have n3_ := qau (blk_below (g := qcc) (o := .cells #[.string (⟨#[]⟩ : ByteArray), .int .i64 0, .int .i64 0] 61 (0, 0)) (by (with_reducible repeat (first | refine qae ?_ _ | refine qag ?_ | refine qaf ?_ _)); exact qcr.out) hb)
              have n4_ := qau (below_step (by repeat (first | (with_reducible first | exact HB.out | apply qak | apply qai | apply qaj | refine qah ?_ (qbc qbg.out) | refine qah ?_ qbv.out | refine qah ?_ qbz.out | refine qah ?_ qdr.out) | exact HB.out)) hb)
              clear qbk
              clear qbg
              clear qbm
              clear qcr
              clear HB
              have qbk := n0_
              have qbg := n1_
              have qbm := n2_
              have qcr := n3_
              have HB := n4_
              clear n0_ n1_ n2_ n3_ n4_
              (try clear hb)
              (try clear hb2)
              (try clear hk)
              (try clear hi)
              refine hK.out _ _ ⟨(qal qbk.out 0).trans rfl, (qal qbk.out 1).trans rfl, (qal qbk.out 2).trans rfl, ((HB.out.cell (qad w _ hw213_0)).trans hw213_0), ((HB.out.cell (qad w _ hw213_1)).trans hw213_1)⟩ (fun hHeld => ?_)
              clear hK K
              refine norm_ (a' := ?_) ?_ ?_
              rotate_left
              ·show Act.put _ (some 103) _ = _
               simp only [Act.put, qaa, qab, qac, i64_w, i32_w]
               rfl
              refine pure_ (i := 7) (N := some 96) (v := ?_) (a' := ?_) sq33 rfl rfl (any_of HT_.out (by kernel_rfl)) (fun _ _ _ h => h) (Or.inl ⟨by rfl, ?_⟩) ?_ ?_
              rotate_left
              ·intro w'
               go_simp
               with_reducible rfl
              rotate_left
              ·simp only [Act.put, qaa, qab, qac, i64_w, i32_w]
               rfl
              refine pure_ (i := 8) (N := some 104) (v := ?_) (a' := ?_) sq34 rfl rfl (any_of HT_.out (by kernel_rfl)) (fun _ _ _ h => h) (Or.inl ⟨by rfl, ?_⟩) ?_ ?_
              rotate_left
              ·intro w'
               go_simp
               with_reducible rfl
              rotate_left
              ·simp only [Act.put, qaa, qab, qac, i64_w, i32_w]
               rfl
              refine pure_ (i := 9) (N := some 105) (v := ?_) (a' := ?_) sq26 rfl rfl (any_of HT_.out (by kernel_rfl)) (fun _ _ _ h => h) (Or.inl ⟨by rfl, ?_⟩) ?_ ?_
              rotate_left
              ·intro w'
               go_simp
               with_reducible rfl
              rotate_left
              ·simp only [Act.put, qaa, qab, qac, i64_w, i32_w]
               rfl
              exact norm_ (by simp only [putAll, Act.put, qaa, qab, qac]) (hCont (qcc) _ ⟨hHeld, (by (with_reducible repeat (first | refine qae ?_ _ | refine qag ?_ | refine qaf ?_ _)); exact qbk.out), (by (with_reducible repeat (first | refine qae ?_ _ | refine qag ?_ | refine qaf ?_ _)); exact qbm.out), (by (with_reducible repeat (first | refine qae ?_ _ | refine qag ?_ | refine qaf ?_ _)); exact qcr.out), qcl.out, qdr.out, qda.out, qdo.out, qci.out, qde.out, qcw.out, qcx.out, (by repeat (first | (with_reducible first | exact qbg.out | apply qax | apply qba | apply qaz | apply qbd | apply qbe | apply qbf | refine qbb ?_ qbo.out _ | refine qbb ?_ qbp.out _ | refine qbb ?_ qda.out _) | exact qbg.out)), (by repeat (first | (with_reducible first | exact HB.out | apply qak | apply qai | apply qaj | refine qah ?_ (qbc qbg.out) | refine qah ?_ qbv.out | refine qah ?_ qbz.out | refine qah ?_ qdr.out) | exact HB.out))⟩)
            rintro qcc w68 ⟨hS_, h0_, h1_, h2_, h3_, h4_, h5_, h6_, h7_, h8_, h9_, h10_, h11_, h12_⟩
            have n0_ : Aside0 (w68.heap[qbn]? = some (.cells #[.string qbj, .int .i64 qbi, .int .i64 qbh] 61 (0, 0))) := ⟨h0_⟩
            have n1_ : Aside0 (w68.heap[qbl]? = some (.cells #[.string qbj, .int .i64 qbi, .int .i64 qbh] 61 (0, 0))) := ⟨h1_⟩
            have n2_ : Aside0 (w68.heap[qcc]? = some (.cells #[.string (⟨#[]⟩ : ByteArray), .int .i64 0, .int .i64 0] 61 (0, 0))) := ⟨h2_⟩
            have n3_ : Aside0 (w.heap.size ≤ qcc) := ⟨h3_⟩
            have n4_ : Aside0 (w.heap.size ≤ qcc) := ⟨h4_⟩
            have n5_ : Aside0 (g186 ≠ qcc) := ⟨h5_⟩
            have n6_ : Aside0 (qcc ≠ g186) := ⟨h6_⟩
            have n7_ : Aside0 (qbn ≠ qcc) := ⟨h7_⟩
            have n8_ : Aside0 (qcc ≠ qbn) := ⟨h8_⟩
            have n9_ : Aside0 (qbl ≠ qcc) := ⟨h9_⟩
            have n10_ : Aside0 (qcc ≠ qbl) := ⟨h10_⟩
            have n11_ : Aside0 (IsS83 w w68 g186 qbw qbx qby) := ⟨h11_⟩
            have n12_ : Aside0 (Below w.heap.size w w68) := ⟨h12_⟩
            clear qbk
            clear qbm
            clear qbg
            clear HB
            clear h0_ h1_ h2_ h3_ h4_ h5_ h6_ h7_ h8_ h9_ h10_ h11_ h12_
            have qbk := n0_
            have qbm := n1_
            have qcr := n2_
            have qcl := n3_
            have qdr := n4_
            have qda := n5_
            have qdo := n6_
            have qci := n7_
            have qde := n8_
            have qcw := n9_
            have qcx := n10_
            have qbg := n11_
            have HB := n12_
            clear n0_ n1_ n2_ n3_ n4_ n5_ n6_ n7_ n8_ n9_ n10_ n11_ n12_
            have hHeld : w68.cell? ⟨qbn, 0, none⟩ = some (.string qbj) ∧ w68.cell? ⟨qbn, 1, none⟩ = some (.int .i64 qbi) ∧ w68.cell? ⟨qbn, 2, none⟩ = some (.int .i64 qbh) ∧ w68.cell? (ad190.add ((qbr).toNat * 2)) = some (.int .i64 ((rd_T63 l1 qbr).f0)) ∧ w68.cell? ⟨(ad190.add ((qbr).toNat * 2)).block, (ad190.add ((qbr).toNat * 2)).off + 1, none⟩ = some (.int .i64 ((rd_T63 l1 qbr).f1)) := hS_
            refine norm_ (a' := ?_) ?_ ?_
            rotate_left
            ·simp only [putAll, Act.put, qaa, qab, qac]
             rfl
            refine one_ (i := 11) (N := none) sq35 rfl rfl (one_of HT_.out (by kernel_rfl)) (by decide) (fun K hK => ?_)
            have hs69 : w68.cell? ⟨qcc, 0, none⟩ = some (.string (⟨#[]⟩ : ByteArray)) := (qal qcr.out 0).trans rfl
            have hfs69 := qam qcr.out 0
            have hns69_0 := qci.out
            have hns69_1 := qcw.out
            have hms69_0 := qde.out
            have hms69_1 := qcx.out
            have hs70 : w68.cell? ⟨qcc, 1, none⟩ = some (.int .i64 0) := (qal qcr.out 1).trans rfl
            have hfs70 := qam qcr.out 1
            have hns70_0 := qci.out
            have hns70_1 := qcw.out
            have hms70_0 := qde.out
            have hms70_1 := qcx.out
            have hs71 : w68.cell? ⟨qcc, 2, none⟩ = some (.int .i64 0) := (qal qcr.out 2).trans rfl
            have hfs71 := qam qcr.out 2
            have hns71_0 := qci.out
            have hns71_1 := qcw.out
            have hms71_0 := qde.out
            have hms71_1 := qcx.out
            refine skip_ (w1 := ?_) (by rfl) rfl ?_ ?_
            rotate_left
            ·go_simp
             rfl
            refine hK.out _ _ ⟨((qan (p := ⟨qcc, _, none⟩) qci.out _).trans (((qan (p := ⟨qcc, _, none⟩) qci.out _).trans (((qan (p := ⟨qcc, _, none⟩) qci.out _).trans (hHeld.1)))))), ((qan (p := ⟨qcc, _, none⟩) qci.out _).trans (((qan (p := ⟨qcc, _, none⟩) qci.out _).trans (((qan (p := ⟨qcc, _, none⟩) qci.out _).trans (hHeld.2.1)))))), ((qan (p := ⟨qcc, _, none⟩) qci.out _).trans (((qan (p := ⟨qcc, _, none⟩) qci.out _).trans (((qan (p := ⟨qcc, _, none⟩) qci.out _).trans (hHeld.2.2.1)))))), ((qan (p := ⟨qcc, _, none⟩) (by first | exact qap (qao (by have := qad _ _ hw213_0; first | rwa [qav] at this | exact this) qcl.out) | (rw [qav]; exact qap (qao (by have := qad _ _ hw213_0; first | rwa [qav] at this | exact this) qcl.out)) | (show (Addr.add _ _).block ≠ _; rw [qav]; exact qap (qao (by have := qad _ _ hw213_0; first | rwa [qav] at this | exact this) qcl.out)) | (dsimp only; exact qap (qao (by have := qad _ _ hw213_0; first | rwa [qav] at this | exact this) qcl.out))) _).trans (((qan (p := ⟨qcc, _, none⟩) (by first | exact qap (qao (by have := qad _ _ hw213_0; first | rwa [qav] at this | exact this) qcl.out) | (rw [qav]; exact qap (qao (by have := qad _ _ hw213_0; first | rwa [qav] at this | exact this) qcl.out)) | (show (Addr.add _ _).block ≠ _; rw [qav]; exact qap (qao (by have := qad _ _ hw213_0; first | rwa [qav] at this | exact this) qcl.out)) | (dsimp only; exact qap (qao (by have := qad _ _ hw213_0; first | rwa [qav] at this | exact this) qcl.out))) _).trans (((qan (p := ⟨qcc, _, none⟩) (by first | exact qap (qao (by have := qad _ _ hw213_0; first | rwa [qav] at this | exact this) qcl.out) | (rw [qav]; exact qap (qao (by have := qad _ _ hw213_0; first | rwa [qav] at this | exact this) qcl.out)) | (show (Addr.add _ _).block ≠ _; rw [qav]; exact qap (qao (by have := qad _ _ hw213_0; first | rwa [qav] at this | exact this) qcl.out)) | (dsimp only; exact qap (qao (by have := qad _ _ hw213_0; first | rwa [qav] at this | exact this) qcl.out))) _).trans (hHeld.2.2.2.1)))))), ((qan (p := ⟨qcc, _, none⟩) (by first | exact qap (qao (by have := qad _ _ hw213_1; first | rwa [qav] at this | exact this) qcl.out) | (rw [qav]; exact qap (qao (by have := qad _ _ hw213_1; first | rwa [qav] at this | exact this) qcl.out)) | (show (Addr.add _ _).block ≠ _; rw [qav]; exact qap (qao (by have := qad _ _ hw213_1; first | rwa [qav] at this | exact this) qcl.out)) | (dsimp only; exact qap (qao (by have := qad _ _ hw213_1; first | rwa [qav] at this | exact this) qcl.out))) _).trans (((qan (p := ⟨qcc, _, none⟩) (by first | exact qap (qao (by have := qad _ _ hw213_1; first | rwa [qav] at this | exact this) qcl.out) | (rw [qav]; exact qap (qao (by have := qad _ _ hw213_1; first | rwa [qav] at this | exact this) qcl.out)) | (show (Addr.add _ _).block ≠ _; rw [qav]; exact qap (qao (by have := qad _ _ hw213_1; first | rwa [qav] at this | exact this) qcl.out)) | (dsimp only; exact qap (qao (by have := qad _ _ hw213_1; first | rwa [qav] at this | exact this) qcl.out))) _).trans (((qan (p := ⟨qcc, _, none⟩) (by first | exact qap (qao (by have := qad _ _ hw213_1; first | rwa [qav] at this | exact this) qcl.out) | (rw [qav]; exact qap (qao (by have := qad _ _ hw213_1; first | rwa [qav] at this | exact this) qcl.out)) | (show (Addr.add _ _).block ≠ _; rw [qav]; exact qap (qao (by have := qad _ _ hw213_1; first | rwa [qav] at this | exact this) qcl.out)) | (dsimp only; exact qap (qao (by have := qad _ _ hw213_1; first | rwa [qav] at this | exact this) qcl.out))) _).trans (hHeld.2.2.2.2))))))⟩ (fun hHeld => ?_)
            clear hK K
            refine pure_ (i := 12) (N := some 15) (v := ?_) (a' := ?_) sq36 rfl rfl (any_of HT_.out (by kernel_rfl)) (fun _ _ _ h => h) (Or.inl ⟨by rfl, ?_⟩) ?_ ?_
            rotate_left
            ·intro w'
             go_simp
             with_reducible rfl
            rotate_left
            ·simp only [Act.put, qaa, qab, qac, i64_w, i32_w]
             rfl
            refine done_ (done_of HT_.out (by kernel_rfl)) ?_
            have hnb72 := qde.out
            have hnc72 := qci.out
            have hnb73 := qcx.out
            have hnc73 := qcw.out
            have hnb74 := qdo.out
            have hnc74 := qda.out
            have qfp : w68.cell? ⟨qcc, 0, none⟩ = some (.string (⟨#[]⟩ : ByteArray)) := (qal qcr.out 0).trans rfl
            have qfq : w68.cell? ⟨qcc, 1, none⟩ = some (.int .i64 0) := (qal qcr.out 1).trans rfl
            have qfr : w68.cell? ⟨qcc, 2, none⟩ = some (.int .i64 0) := (qal qcr.out 2).trans rfl
            have qfs := qam qcr.out 0
            have qft := qam qcr.out 1
            have qfu := qam qcr.out 2
            have hnb76 := qcd.out
            have hnc76 := qbu.out
            have hnb77 := qce.out
            have hnc77 := qbp.out
            have qfv : w68.cell? ⟨qbl, 0, none⟩ = some (.string qbj) := (qal qbm.out 0).trans rfl
            have qfw : w68.cell? ⟨qbl, 1, none⟩ = some (.int .i64 qbi) := (qal qbm.out 1).trans rfl
            have qfx : w68.cell? ⟨qbl, 2, none⟩ = some (.int .i64 qbh) := (qal qbm.out 2).trans rfl
            have qfy := qam qbm.out 0
            have qfz := qam qbm.out 1
            have qga := qam qbm.out 2
            have p219 : 0 ≤ (qbr : Int) := of_decide_eq_true (by first | (with_reducible assumption) | assumption)
            have q219 : qbr < (l1.length : Int) := of_decide_eq_true (by first | (with_reducible assumption) | assumption)
            obtain ⟨ad219, e219, hx219_0, hx219_1⟩ := at_T63 HR1.out qbr p219 q219
            obtain rfl : ad190 = ad219 := (by injection e219)
            have hn219_0 : ad190.block ≠ qcc := qap (qao (by have := qad _ _ hx219_0; first | rwa [qav] at this | exact this) qcl.out)
            have hn219_1 : ad190.block ≠ qcc := qap (qao (by have := qad _ _ hx219_0; first | rwa [qav] at this | exact this) qcl.out)
            have hn219_2 : ad190.block ≠ qcc := qap (qao (by have := qad _ _ hx219_0; first | rwa [qav] at this | exact this) qcl.out)
            have hn219_3 : ad190.block ≠ qbl := qap (qao (by have := qad _ _ hx219_0; first | rwa [qav] at this | exact this) qdb.out)
            have hn219_4 : ad190.block ≠ qbl := qap (qao (by have := qad _ _ hx219_0; first | rwa [qav] at this | exact this) qdb.out)
            have hn219_5 : ad190.block ≠ qbl := qap (qao (by have := qad _ _ hx219_0; first | rwa [qav] at this | exact this) qdb.out)
            replace hx219_0 := (HB.out.cell (qad w _ hx219_0)).trans hx219_0
            replace hx219_1 := (HB.out.cell (qad w _ hx219_1)).trans hx219_1
            replace hx219_0 := (qan (p := ⟨qcc, 0, none⟩) (by first | (rw [qav]; exact hn219_0) | (show (Addr.add _ _).block ≠ _; rw [qav]; exact hn219_0) | exact hn219_0) (.string t214)).trans hx219_0
            replace hx219_1 := (qan (p := ⟨qcc, 0, none⟩) (by first | (rw [qav]; exact hn219_0) | (show (Addr.add _ _).block ≠ _; rw [qav]; exact hn219_0) | exact hn219_0) (.string t214)).trans hx219_1
            replace hx219_0 := (qan (p := ⟨qcc, 1, none⟩) (by first | (rw [qav]; exact hn219_1) | (show (Addr.add _ _).block ≠ _; rw [qav]; exact hn219_1) | exact hn219_1) (.int .i64 t215)).trans hx219_0
            replace hx219_1 := (qan (p := ⟨qcc, 1, none⟩) (by first | (rw [qav]; exact hn219_1) | (show (Addr.add _ _).block ≠ _; rw [qav]; exact hn219_1) | exact hn219_1) (.int .i64 t215)).trans hx219_1
            replace hx219_0 := (qan (p := ⟨qcc, 2, none⟩) (by first | (rw [qav]; exact hn219_2) | (show (Addr.add _ _).block ≠ _; rw [qav]; exact hn219_2) | exact hn219_2) (.int .i64 t216)).trans hx219_0
            replace hx219_1 := (qan (p := ⟨qcc, 2, none⟩) (by first | (rw [qav]; exact hn219_2) | (show (Addr.add _ _).block ≠ _; rw [qav]; exact hn219_2) | exact hn219_2) (.int .i64 t216)).trans hx219_1
            replace hx219_0 := (qan (p := ⟨qbl, 0, none⟩) (by first | (rw [qav]; exact hn219_3) | (show (Addr.add _ _).block ≠ _; rw [qav]; exact hn219_3) | exact hn219_3) (.string t214)).trans hx219_0
            replace hx219_1 := (qan (p := ⟨qbl, 0, none⟩) (by first | (rw [qav]; exact hn219_3) | (show (Addr.add _ _).block ≠ _; rw [qav]; exact hn219_3) | exact hn219_3) (.string t214)).trans hx219_1
            replace hx219_0 := (qan (p := ⟨qbl, 1, none⟩) (by first | (rw [qav]; exact hn219_4) | (show (Addr.add _ _).block ≠ _; rw [qav]; exact hn219_4) | exact hn219_4) (.int .i64 t215)).trans hx219_0
            replace hx219_1 := (qan (p := ⟨qbl, 1, none⟩) (by first | (rw [qav]; exact hn219_4) | (show (Addr.add _ _).block ≠ _; rw [qav]; exact hn219_4) | exact hn219_4) (.int .i64 t215)).trans hx219_1
            replace hx219_0 := (qan (p := ⟨qbl, 2, none⟩) (by first | (rw [qav]; exact hn219_5) | (show (Addr.add _ _).block ≠ _; rw [qav]; exact hn219_5) | exact hn219_5) (.int .i64 t216)).trans hx219_0
            replace hx219_1 := (qan (p := ⟨qbl, 2, none⟩) (by first | (rw [qav]; exact hn219_5) | (show (Addr.add _ _).block ≠ _; rw [qav]; exact hn219_5) | exact hn219_5) (.int .i64 t216)).trans hx219_1
            clear hn219_0
            clear hn219_1
            clear hn219_2
            clear hn219_3
            clear hn219_4
            clear hn219_5
            replace p219 := eq_true p219
            replace q219 := eq_true q219
            try go_wp2_with (first | ((with_reducible refine gate_callee (f := 34) rfl ?_); refine goesL_ (some 113) rfl rfl Try.func34 (by kernel_rfl) rfl #[.pointer (some ⟨g186, 0, none⟩), .int .i64 ((rd_T63 l1 qbr).f1)] rfl (by (try simp only [qar, qas, qat]); first | done | rfl) ?_; (with_reducible refine (octet_Reader_Text.calls k2 g186 qbw qbx qby ((rd_T63 l1 qbr).f1) t220 t221 t222 t223 w _ ?side1 ?side2 A63.out).mono ?_); (case side1 => repeat (first | (with_reducible first | exact qbg.out | apply qax | apply qba | apply qaz | apply qbd | apply qbe | apply qbf | refine qbb ?_ qbo.out _ | refine qbb ?_ qbp.out _ | refine qbb ?_ qda.out _) | exact qbg.out)); (case side2 => repeat (first | (with_reducible first | exact HB.out | apply qak | apply qai | apply qaj | refine qah ?_ (qbc qbg.out) | refine qah ?_ qbv.out | refine qah ?_ qbz.out | refine qah ?_ qdr.out) | exact HB.out)); rintro e w79 ⟨rfl, hi, hb, hk⟩; refine ⟨_, rfl, ?_⟩; have n0_ := qau (KeepBut.blk hk (g' := qbn) (o := .cells #[.string qbj, .int .i64 qbi, .int .i64 qbh] 61 (0, 0)) (by (with_reducible repeat (first | refine qae ?_ _ | refine qag ?_ | refine qaf ?_ _)); refine blk_far ?_ qbu.out _; (with_reducible repeat (first | refine qae ?_ _ | refine qag ?_ | refine qaf ?_ _)); refine blk_far ?_ qbu.out _; (with_reducible repeat (first | refine qae ?_ _ | refine qag ?_ | refine qaf ?_ _)); refine blk_far ?_ qbu.out _; (with_reducible repeat (first | refine qae ?_ _ | refine qag ?_ | refine qaf ?_ _)); refine blk_far ?_ qci.out _; (with_reducible repeat (first | refine qae ?_ _ | refine qag ?_ | refine qaf ?_ _)); refine blk_far ?_ qci.out _; (with_reducible repeat (first | refine qae ?_ _ | refine qag ?_ | refine qaf ?_ _)); refine blk_far ?_ qci.out _; (with_reducible repeat (first | refine qae ?_ _ | refine qag ?_ | refine qaf ?_ _)); exact qbk.out) qcf.out (by simp)); have n1_ := qau (KeepBut.blk hk (g' := qbl) (o := .cells #[.string t214, .int .i64 t215, .int .i64 t216] 61 (0, 0)) (by (with_reducible repeat (first | refine qae ?_ _ | refine qag ?_ | refine qaf ?_ _)); refine blk_put (cs := #[.string t214, .int .i64 t215, .int .i64 qbh]) ?_ 2 _ rfl; (with_reducible repeat (first | refine qae ?_ _ | refine qag ?_ | refine qaf ?_ _)); refine blk_put (cs := #[.string t214, .int .i64 qbi, .int .i64 qbh]) ?_ 1 _ rfl; (with_reducible repeat (first | refine qae ?_ _ | refine qag ?_ | refine qaf ?_ _)); refine blk_put (cs := #[.string qbj, .int .i64 qbi, .int .i64 qbh]) ?_ 0 _ rfl; (with_reducible repeat (first | refine qae ?_ _ | refine qag ?_ | refine qaf ?_ _)); refine blk_far ?_ qcw.out _; (with_reducible repeat (first | refine qae ?_ _ | refine qag ?_ | refine qaf ?_ _)); refine blk_far ?_ qcw.out _; (with_reducible repeat (first | refine qae ?_ _ | refine qag ?_ | refine qaf ?_ _)); refine blk_far ?_ qcw.out _; (with_reducible repeat (first | refine qae ?_ _ | refine qag ?_ | refine qaf ?_ _)); exact qbm.out) qce.out (by simp)); have n2_ := qau (KeepBut.blk hk (g' := qcc) (o := .cells #[.string t214, .int .i64 t215, .int .i64 t216] 61 (0, 0)) (by (with_reducible repeat (first | refine qae ?_ _ | refine qag ?_ | refine qaf ?_ _)); refine blk_far ?_ qcx.out _; (with_reducible repeat (first | refine qae ?_ _ | refine qag ?_ | refine qaf ?_ _)); refine blk_far ?_ qcx.out _; (with_reducible repeat (first | refine qae ?_ _ | refine qag ?_ | refine qaf ?_ _)); refine blk_far ?_ qcx.out _; (with_reducible repeat (first | refine qae ?_ _ | refine qag ?_ | refine qaf ?_ _)); refine blk_put (cs := #[.string t214, .int .i64 t215, .int .i64 0]) ?_ 2 _ rfl; (with_reducible repeat (first | refine qae ?_ _ | refine qag ?_ | refine qaf ?_ _)); refine blk_put (cs := #[.string t214, .int .i64 0, .int .i64 0]) ?_ 1 _ rfl; (with_reducible repeat (first | refine qae ?_ _ | refine qag ?_ | refine qaf ?_ _)); refine blk_put (cs := #[.string (⟨#[]⟩ : ByteArray), .int .i64 0, .int .i64 0]) ?_ 0 _ rfl; (with_reducible repeat (first | refine qae ?_ _ | refine qag ?_ | refine qaf ?_ _)); exact qcr.out) qdo.out (by simp)); have n3_ := qau (hb); have n4_ := qau (hi); clear qbk; clear qbm; clear qcr; clear HB; clear qbg; have qbk := n0_; have qbm := n1_; have qcr := n2_; have HB := n3_; have qbg := n4_; clear n0_ n1_ n2_ n3_ n4_; (try clear hb); (try clear hk); (try clear hi)))
            go_meet
            case rel => exact ⟨_, ((t220.toList == t217.toList)), (t221), (t222), (t223), (t214), (t215), (t216), (by first | rfl | (simp; done) | (simp [*]; done)), H', ⟨by have := HJ3.out; have := HK2.out; first | omega | exact Nat.le_refl _⟩, ⟨by (with_reducible repeat (first | refine qae ?_ _ | refine qag ?_ | refine qaf ?_ _)); exact qbk.out⟩, ⟨by (with_reducible repeat (first | refine qae ?_ _ | refine qag ?_ | refine qaf ?_ _)); exact qbm.out⟩, ⟨by repeat (first | (with_reducible first | exact qbg.out | apply qax | apply qba | apply qaz | apply qbd | apply qbe | apply qbf | refine qbb ?_ qbo.out _ | refine qbb ?_ qbp.out _ | refine qbb ?_ qda.out _) | exact qbg.out)⟩, ⟨by repeat (first | (with_reducible first | exact HB.out | apply qak | apply qai | apply qaj | refine qah ?_ (qbc qbg.out) | refine qah ?_ qbv.out | refine qah ?_ qbz.out | refine qah ?_ qdr.out) | exact HB.out)⟩⟩
           ·focus
            rw [if_neg c61] at H
            have c61b0 : (((rd_T63 l1 qbr).f0) == 2) = false := beq_eq_false_iff_ne.mpr c61
            have c61b1 : (((rd_T63 l1 qbr).f0) != 2) = true := bne_iff_ne.mpr c61
            by_cases c80 : ((rd_T63 l1 qbr).f0) = 3
            ·rw [if_pos c80] at H
             have c80b0 : (((rd_T63 l1 qbr).f0) == 3) = true := beq_iff_eq.mpr c80
             have c80b1 : (((rd_T63 l1 qbr).f0) != 3) = false := bne_eq_false_iff_eq.mpr c80
             clear c80
             replace H := Option.bind_eq_some_iff.mp H
             obtain ⟨⟨t224, t225, t226, t227⟩, A810, H⟩ := H
             replace H : ((octet_Reader_Bool.f k2 qbw qbx qby).bind fun bt229 => (j2 k2 l1 qbr (bt229.1 == t227) bt229.2.1 bt229.2.2.1 bt229.2.2.2 t224 t225 t226)) = some r := H
             have A81 := qau A810
             clear A810
             replace H := Option.bind_eq_some_iff.mp H
             obtain ⟨⟨t229, t230, t231, t232⟩, A820, H⟩ := H
             replace H : (j2 k2 l1 qbr (t229 == t227) t230 t231 t232 t224 t225 t226) = some r := H
             have A82 := qau A820
             clear A820
             have H' := qau H
             clear H
             have hnb83 := qbu.out
             have hnc83 := qcd.out
             have hnb84 := qcf.out
             have hnc84 := qbo.out
             have qgb : w19.cell? ⟨qbn, 0, none⟩ = some (.string qbj) := (qal qbk.out 0).trans rfl
             have qgc : w19.cell? ⟨qbn, 1, none⟩ = some (.int .i64 qbi) := (qal qbk.out 1).trans rfl
             have qgd : w19.cell? ⟨qbn, 2, none⟩ = some (.int .i64 qbh) := (qal qbk.out 2).trans rfl
             have qge := qam qbk.out 0
             have qgf := qam qbk.out 1
             have qgg := qam qbk.out 2
             go_wp2_with (first | ((with_reducible refine gate_callee (f := 35) rfl ?_); refine goesL_ (some 120) rfl rfl Try.func35 (by kernel_rfl) rfl #[.agg #[.string qbj, .int .i64 qbi, .int .i64 qbh]] rfl (by (try simp only [qar, qas, qat]); first | done | rfl) ?_; (with_reducible refine (stowageref01_Reader_Bool.calls k2 qbj qbi qbh t224 t225 t226 t227 _ A81.out).mono ?_); rintro e w86 ⟨rfl, hb⟩; refine ⟨_, rfl, ?_⟩; have n0_ := qau (blk_below (g := qbn) (o := .cells #[.string qbj, .int .i64 qbi, .int .i64 qbh] 61 (0, 0)) (by (with_reducible repeat (first | refine qae ?_ _ | refine qag ?_ | refine qaf ?_ _)); refine blk_far ?_ qbu.out _; (with_reducible repeat (first | refine qae ?_ _ | refine qag ?_ | refine qaf ?_ _)); refine blk_far ?_ qbu.out _; (with_reducible repeat (first | refine qae ?_ _ | refine qag ?_ | refine qaf ?_ _)); refine blk_far ?_ qbu.out _; (with_reducible repeat (first | refine qae ?_ _ | refine qag ?_ | refine qaf ?_ _)); exact qbk.out) hb); have n1_ := qau (qay (show IsS83 w (((w19.setCell ⟨qbl, 0, none⟩ (.string qbj)).setCell ⟨qbl, 1, none⟩ (.int .i64 qbi)).setCell ⟨qbl, 2, none⟩ (.int .i64 qbh)) g186 qbw qbx qby from by repeat (first | (with_reducible first | exact qbg.out | apply qax | apply qba | apply qaz | apply qbd | apply qbe | apply qbf | refine qbb ?_ qbo.out _ | refine qbb ?_ qbp.out _) | exact qbg.out)) hb); have n2_ := qau (blk_below (g := qbl) (o := .cells #[.string qbj, .int .i64 qbi, .int .i64 qbh] 61 (0, 0)) (by (with_reducible repeat (first | refine qae ?_ _ | refine qag ?_ | refine qaf ?_ _)); refine blk_put (cs := #[.string qbj, .int .i64 qbi, .int .i64 0]) ?_ 2 _ rfl; (with_reducible repeat (first | refine qae ?_ _ | refine qag ?_ | refine qaf ?_ _)); refine blk_put (cs := #[.string qbj, .int .i64 0, .int .i64 0]) ?_ 1 _ rfl; (with_reducible repeat (first | refine qae ?_ _ | refine qag ?_ | refine qaf ?_ _)); refine blk_put (cs := #[.string (⟨#[]⟩ : ByteArray), .int .i64 0, .int .i64 0]) ?_ 0 _ rfl; (with_reducible repeat (first | refine qae ?_ _ | refine qag ?_ | refine qaf ?_ _)); exact qbm.out) hb); have n3_ := qau (below_step (by repeat (first | (with_reducible first | exact HB.out | apply qak | apply qai | apply qaj | refine qah ?_ (qbc qbg.out) | refine qah ?_ qbv.out | refine qah ?_ qbz.out) | exact HB.out)) hb); clear qbk; clear qbg; clear qbm; clear HB; have qbk := n0_; have qbg := n1_; have qbm := n2_; have HB := n3_; clear n0_ n1_ n2_ n3_; (try clear hb); (try clear hk); (try clear hi)) | ((with_reducible refine gate_dst (N := 16) rfl ?_); refine box_event ?hg (N := 16) ?hd (cs := #[.string (⟨#[]⟩ : ByteArray), .int .i64 0, .int .i64 0]) (t := 61) ?hr ?_; (case hd => rfl); (case hg => rfl); (case hr => first | (go_simp; done) | (go_simp; rfl)); intro qdl hg w87 hbox hb; have n0_ := qau (blk_below (g := qbn) (o := .cells #[.string qbj, .int .i64 qbi, .int .i64 qbh] 61 (0, 0)) (by (with_reducible repeat (first | refine qae ?_ _ | refine qag ?_ | refine qaf ?_ _)); exact qbk.out) hb); have n1_ := qau (qay (by repeat (first | (with_reducible first | exact qbg.out | apply qax | apply qba | apply qaz | apply qbd | apply qbe | apply qbf | refine qbb ?_ qbo.out _ | refine qbb ?_ qbp.out _) | exact qbg.out)) hb); have n2_ := qau (blk_below (g := qbl) (o := .cells #[.string qbj, .int .i64 qbi, .int .i64 qbh] 61 (0, 0)) (by (with_reducible repeat (first | refine qae ?_ _ | refine qag ?_ | refine qaf ?_ _)); exact qbm.out) hb); have n3_ := qau (below_step (by repeat (first | (with_reducible first | exact HB.out | apply qak | apply qai | apply qaj | refine qah ?_ (qbc qbg.out) | refine qah ?_ qbv.out | refine qah ?_ qbz.out) | exact HB.out)) hb); have n4_ := qau (hbox); have n5_ := qau ((by rw [hg]; exact (below_size (by repeat (first | (with_reducible first | exact HB.out | apply qak | apply qai | apply qaj | refine qah ?_ (qbc qbg.out) | refine qah ?_ qbv.out | refine qah ?_ qbz.out) | exact HB.out))) : w.heap.size ≤ qdl)); have n6_ := qau ((by rw [hg]; exact (below_size (by repeat (first | (with_reducible first | exact HB.out | apply qak | apply qai | apply qaj | refine qah ?_ (qbc qbg.out) | refine qah ?_ qbv.out | refine qah ?_ qbz.out) | exact HB.out))) : w.heap.size ≤ qdl)); have n7_ := qau ((by rw [hg]; exact qap (blk_lt (g := qbn) (o := .cells #[.string qbj, .int .i64 qbi, .int .i64 qbh] 61 (0, 0)) (by (with_reducible repeat (first | refine qae ?_ _ | refine qag ?_ | refine qaf ?_ _)); exact qbk.out)) : qbn ≠ qdl)); have n8_ := qau ((by rw [hg]; exact qaq (blk_lt (g := qbn) (o := .cells #[.string qbj, .int .i64 qbi, .int .i64 qbh] 61 (0, 0)) (by (with_reducible repeat (first | refine qae ?_ _ | refine qag ?_ | refine qaf ?_ _)); exact qbk.out)) : qdl ≠ qbn)); have n9_ := qau ((by rw [hg]; exact qap (blk_lt (g := qbl) (o := .cells #[.string qbj, .int .i64 qbi, .int .i64 qbh] 61 (0, 0)) (by (with_reducible repeat (first | refine qae ?_ _ | refine qag ?_ | refine qaf ?_ _)); exact qbm.out)) : qbl ≠ qdl)); have n10_ := qau ((by rw [hg]; exact qaq (blk_lt (g := qbl) (o := .cells #[.string qbj, .int .i64 qbi, .int .i64 qbh] 61 (0, 0)) (by (with_reducible repeat (first | refine qae ?_ _ | refine qag ?_ | refine qaf ?_ _)); exact qbm.out)) : qdl ≠ qbl)); have n11_ := qau ((by rw [hg]; exact qap (IsS83.lt (show IsS83 w _ g186 qbw qbx qby from by repeat (first | (with_reducible first | exact qbg.out | apply qax | apply qba | apply qaz | apply qbd | apply qbe | apply qbf | refine qbb ?_ qbo.out _ | refine qbb ?_ qbp.out _) | exact qbg.out))) : g186 ≠ qdl)); have n12_ := qau ((by rw [hg]; exact qaq (IsS83.lt (show IsS83 w _ g186 qbw qbx qby from by repeat (first | (with_reducible first | exact qbg.out | apply qax | apply qba | apply qaz | apply qbd | apply qbe | apply qbf | refine qbb ?_ qbo.out _ | refine qbb ?_ qbp.out _) | exact qbg.out))) : qdl ≠ g186)); clear qbk; clear qbg; clear qbm; clear HB; have qbk := n0_; have qbg := n1_; have qbm := n2_; have HB := n3_; have qds := n4_; have qka := n5_; have qfn := n6_; have qdt := n7_; have qei := n8_; have qdu := n9_; have qdv := n10_; have qdw := n11_; have qdx := n12_; clear n0_ n1_ n2_ n3_ n4_ n5_ n6_ n7_ n8_ n9_ n10_ n11_ n12_; clear hb hbox hg; have hnb88 := qei.out; have hnc88 := qdt.out; have hnb89 := qdv.out; have hnc89 := qdu.out; have hnb90 := qdx.out; have hnc90 := qdw.out; have qgh : w87.cell? ⟨qdl, 0, none⟩ = some (.string (⟨#[]⟩ : ByteArray)) := (qal qds.out 0).trans rfl; have qgi : w87.cell? ⟨qdl, 1, none⟩ = some (.int .i64 0) := (qal qds.out 1).trans rfl; have qgj : w87.cell? ⟨qdl, 2, none⟩ = some (.int .i64 0) := (qal qds.out 2).trans rfl; have qgk := qam qds.out 0; have qgl := qam qds.out 1; have qgm := qam qds.out 2; have hnb92 := qce.out; have hnc92 := qbp.out; have qgn : w87.cell? ⟨qbl, 0, none⟩ = some (.string qbj) := (qal qbm.out 0).trans rfl; have qgo : w87.cell? ⟨qbl, 1, none⟩ = some (.int .i64 qbi) := (qal qbm.out 1).trans rfl; have qgp : w87.cell? ⟨qbl, 2, none⟩ = some (.int .i64 qbh) := (qal qbm.out 2).trans rfl; have qgq := qam qbm.out 0; have qgr := qam qbm.out 1; have qgs := qam qbm.out 2) | ((with_reducible refine gate_callee (f := 36) rfl ?_); refine goesL_ (some 125) rfl rfl Try.func36 (by kernel_rfl) rfl #[.pointer (some ⟨g186, 0, none⟩)] rfl (by (try simp only [qar, qas, qat]); first | done | rfl) ?_; (with_reducible refine (octet_Reader_Bool.calls k2 g186 qbw qbx qby t229 t230 t231 t232 w _ ?side1 ?side2 A82.out).mono ?_); (case side1 => repeat (first | (with_reducible first | exact qbg.out | apply qax | apply qba | apply qaz | apply qbd | apply qbe | apply qbf | refine qbb ?_ qbo.out _ | refine qbb ?_ qbp.out _ | refine qbb ?_ qdw.out _) | exact qbg.out)); (case side2 => repeat (first | (with_reducible first | exact HB.out | apply qak | apply qai | apply qaj | refine qah ?_ (qbc qbg.out) | refine qah ?_ qbv.out | refine qah ?_ qbz.out | refine qah ?_ qfn.out) | exact HB.out)); rintro e w94 ⟨rfl, hi, hb, hk⟩; refine ⟨_, rfl, ?_⟩; have n0_ := qau (KeepBut.blk hk (g' := qbn) (o := .cells #[.string qbj, .int .i64 qbi, .int .i64 qbh] 61 (0, 0)) (by (with_reducible repeat (first | refine qae ?_ _ | refine qag ?_ | refine qaf ?_ _)); refine blk_far ?_ qbu.out _; (with_reducible repeat (first | refine qae ?_ _ | refine qag ?_ | refine qaf ?_ _)); refine blk_far ?_ qbu.out _; (with_reducible repeat (first | refine qae ?_ _ | refine qag ?_ | refine qaf ?_ _)); refine blk_far ?_ qbu.out _; (with_reducible repeat (first | refine qae ?_ _ | refine qag ?_ | refine qaf ?_ _)); refine blk_far ?_ qdt.out _; (with_reducible repeat (first | refine qae ?_ _ | refine qag ?_ | refine qaf ?_ _)); refine blk_far ?_ qdt.out _; (with_reducible repeat (first | refine qae ?_ _ | refine qag ?_ | refine qaf ?_ _)); refine blk_far ?_ qdt.out _; (with_reducible repeat (first | refine qae ?_ _ | refine qag ?_ | refine qaf ?_ _)); exact qbk.out) qcf.out (by simp)); have n1_ := qau (KeepBut.blk hk (g' := qbl) (o := .cells #[.string t224, .int .i64 t225, .int .i64 t226] 61 (0, 0)) (by (with_reducible repeat (first | refine qae ?_ _ | refine qag ?_ | refine qaf ?_ _)); refine blk_put (cs := #[.string t224, .int .i64 t225, .int .i64 qbh]) ?_ 2 _ rfl; (with_reducible repeat (first | refine qae ?_ _ | refine qag ?_ | refine qaf ?_ _)); refine blk_put (cs := #[.string t224, .int .i64 qbi, .int .i64 qbh]) ?_ 1 _ rfl; (with_reducible repeat (first | refine qae ?_ _ | refine qag ?_ | refine qaf ?_ _)); refine blk_put (cs := #[.string qbj, .int .i64 qbi, .int .i64 qbh]) ?_ 0 _ rfl; (with_reducible repeat (first | refine qae ?_ _ | refine qag ?_ | refine qaf ?_ _)); refine blk_far ?_ qdu.out _; (with_reducible repeat (first | refine qae ?_ _ | refine qag ?_ | refine qaf ?_ _)); refine blk_far ?_ qdu.out _; (with_reducible repeat (first | refine qae ?_ _ | refine qag ?_ | refine qaf ?_ _)); refine blk_far ?_ qdu.out _; (with_reducible repeat (first | refine qae ?_ _ | refine qag ?_ | refine qaf ?_ _)); exact qbm.out) qce.out (by simp)); have n2_ := qau (KeepBut.blk hk (g' := qdl) (o := .cells #[.string t224, .int .i64 t225, .int .i64 t226] 61 (0, 0)) (by (with_reducible repeat (first | refine qae ?_ _ | refine qag ?_ | refine qaf ?_ _)); refine blk_far ?_ qdv.out _; (with_reducible repeat (first | refine qae ?_ _ | refine qag ?_ | refine qaf ?_ _)); refine blk_far ?_ qdv.out _; (with_reducible repeat (first | refine qae ?_ _ | refine qag ?_ | refine qaf ?_ _)); refine blk_far ?_ qdv.out _; (with_reducible repeat (first | refine qae ?_ _ | refine qag ?_ | refine qaf ?_ _)); refine blk_put (cs := #[.string t224, .int .i64 t225, .int .i64 0]) ?_ 2 _ rfl; (with_reducible repeat (first | refine qae ?_ _ | refine qag ?_ | refine qaf ?_ _)); refine blk_put (cs := #[.string t224, .int .i64 0, .int .i64 0]) ?_ 1 _ rfl; (with_reducible repeat (first | refine qae ?_ _ | refine qag ?_ | refine qaf ?_ _)); refine blk_put (cs := #[.string (⟨#[]⟩ : ByteArray), .int .i64 0, .int .i64 0]) ?_ 0 _ rfl; (with_reducible repeat (first | refine qae ?_ _ | refine qag ?_ | refine qaf ?_ _)); exact qds.out) qdx.out (by simp)); have n3_ := qau (hb); have n4_ := qau (hi); clear qbk; clear qbm; clear qds; clear HB; clear qbg; have qbk := n0_; have qbm := n1_; have qds := n2_; have HB := n3_; have qbg := n4_; clear n0_ n1_ n2_ n3_ n4_; (try clear hb); (try clear hk); (try clear hi)))
             go_meet
             case rel => exact ⟨_, ((t229 == t227)), (t230), (t231), (t232), (t224), (t225), (t226), (by first | rfl | (simp; done) | (simp [*]; done)), H', ⟨by have := HJ3.out; have := HK2.out; first | omega | exact Nat.le_refl _⟩, ⟨by (with_reducible repeat (first | refine qae ?_ _ | refine qag ?_ | refine qaf ?_ _)); exact qbk.out⟩, ⟨by (with_reducible repeat (first | refine qae ?_ _ | refine qag ?_ | refine qaf ?_ _)); exact qbm.out⟩, ⟨by repeat (first | (with_reducible first | exact qbg.out | apply qax | apply qba | apply qaz | apply qbd | apply qbe | apply qbf | refine qbb ?_ qbo.out _ | refine qbb ?_ qbp.out _ | refine qbb ?_ qdw.out _) | exact qbg.out)⟩, ⟨by repeat (first | (with_reducible first | exact HB.out | apply qak | apply qai | apply qaj | refine qah ?_ (qbc qbg.out) | refine qah ?_ qbv.out | refine qah ?_ qbz.out | refine qah ?_ qfn.out) | exact HB.out)⟩⟩
            ·focus
             rw [if_neg c80] at H
             have c80b0 : (((rd_T63 l1 qbr).f0) == 3) = false := beq_eq_false_iff_ne.mpr c80
             have c80b1 : (((rd_T63 l1 qbr).f0) != 3) = true := bne_iff_ne.mpr c80
             by_cases c95 : ((rd_T63 l1 qbr).f0) = 4
             ·rw [if_pos c95] at H
              have c95b0 : (((rd_T63 l1 qbr).f0) == 4) = true := beq_iff_eq.mpr c95
              have c95b1 : (((rd_T63 l1 qbr).f0) != 4) = false := bne_eq_false_iff_eq.mpr c95
              clear c95
              replace H := Option.bind_eq_some_iff.mp H
              obtain ⟨⟨t234, t235, t236⟩, A960, H⟩ := H
              replace H : (if qbh = 0 then (j2 k2 l1 qbr true t234 t235 t236 qbj qbi ((rd_T63 l1 qbr).f1)) else (j2 k2 l1 qbr true t234 t235 t236 qbj qbi qbh)) = some r := H
              have A96 := qau A960
              clear A960
              by_cases c97 : qbh = 0
              ·rw [if_pos c97] at H
               have c97b0 : (qbh == 0) = true := beq_iff_eq.mpr c97
               have c97b1 : (qbh != 0) = false := bne_eq_false_iff_eq.mpr c97
               clear c97
               have H' := qau H
               clear H
               have p233 : 0 ≤ (qbr : Int) := of_decide_eq_true (by first | (with_reducible assumption) | assumption)
               have q233 : qbr < (l1.length : Int) := of_decide_eq_true (by first | (with_reducible assumption) | assumption)
               obtain ⟨ad233, e233, hx233_0, hx233_1⟩ := at_T63 HR1.out qbr p233 q233
               obtain rfl : ad190 = ad233 := (by injection e233)
               have hn233_0 : ad190.block ≠ qbl := qap (qao (by have := qad _ _ hx233_0; first | rwa [qav] at this | exact this) qdb.out)
               have hn233_1 : ad190.block ≠ qbl := qap (qao (by have := qad _ _ hx233_0; first | rwa [qav] at this | exact this) qdb.out)
               have hn233_2 : ad190.block ≠ qbl := qap (qao (by have := qad _ _ hx233_0; first | rwa [qav] at this | exact this) qdb.out)
               replace hx233_0 := (HB.out.cell (qad w _ hx233_0)).trans hx233_0
               replace hx233_1 := (HB.out.cell (qad w _ hx233_1)).trans hx233_1
               replace hx233_0 := (qan (p := ⟨qbl, 0, none⟩) (by first | (rw [qav]; exact hn233_0) | (show (Addr.add _ _).block ≠ _; rw [qav]; exact hn233_0) | exact hn233_0) (.string qbj)).trans hx233_0
               replace hx233_1 := (qan (p := ⟨qbl, 0, none⟩) (by first | (rw [qav]; exact hn233_0) | (show (Addr.add _ _).block ≠ _; rw [qav]; exact hn233_0) | exact hn233_0) (.string qbj)).trans hx233_1
               replace hx233_0 := (qan (p := ⟨qbl, 1, none⟩) (by first | (rw [qav]; exact hn233_1) | (show (Addr.add _ _).block ≠ _; rw [qav]; exact hn233_1) | exact hn233_1) (.int .i64 qbi)).trans hx233_0
               replace hx233_1 := (qan (p := ⟨qbl, 1, none⟩) (by first | (rw [qav]; exact hn233_1) | (show (Addr.add _ _).block ≠ _; rw [qav]; exact hn233_1) | exact hn233_1) (.int .i64 qbi)).trans hx233_1
               replace hx233_0 := (qan (p := ⟨qbl, 2, none⟩) (by first | (rw [qav]; exact hn233_2) | (show (Addr.add _ _).block ≠ _; rw [qav]; exact hn233_2) | exact hn233_2) (.int .i64 qbh)).trans hx233_0
               replace hx233_1 := (qan (p := ⟨qbl, 2, none⟩) (by first | (rw [qav]; exact hn233_2) | (show (Addr.add _ _).block ≠ _; rw [qav]; exact hn233_2) | exact hn233_2) (.int .i64 qbh)).trans hx233_1
               clear hn233_0
               clear hn233_1
               clear hn233_2
               replace p233 := eq_true p233
               replace q233 := eq_true q233
               go_wp2_with (first | ((with_reducible refine gate_callee (f := 37) rfl ?_); refine goesL_ (some 136) rfl rfl Try.func37 (by kernel_rfl) rfl #[.pointer (some ⟨g186, 0, none⟩), .int .i64 ((rd_T63 l1 qbr).f1)] rfl (by (try simp only [qar, qas, qat]); first | done | rfl) ?_; (with_reducible refine (octet_Reader_Fail.calls g186 qbw qbx qby ((rd_T63 l1 qbr).f1) t234 t235 t236 w _ ?side1 ?side2 A96.out).mono ?_); (case side1 => repeat (first | (with_reducible first | exact qbg.out | apply qax | apply qba | apply qaz | apply qbd | apply qbe | apply qbf | refine qbb ?_ qbo.out _ | refine qbb ?_ qbp.out _) | exact qbg.out)); (case side2 => repeat (first | (with_reducible first | exact HB.out | apply qak | apply qai | apply qaj | refine qah ?_ (qbc qbg.out) | refine qah ?_ qbv.out | refine qah ?_ qbz.out) | exact HB.out)); rintro e w98 ⟨rfl, hi, hb, hk⟩; refine ⟨_, rfl, ?_⟩; have n0_ := qau (KeepBut.blk hk (g' := qbn) (o := .cells #[.string qbj, .int .i64 qbi, .int .i64 qbh] 61 (0, 0)) (by (with_reducible repeat (first | refine qae ?_ _ | refine qag ?_ | refine qaf ?_ _)); refine blk_far ?_ qbu.out _; (with_reducible repeat (first | refine qae ?_ _ | refine qag ?_ | refine qaf ?_ _)); refine blk_far ?_ qbu.out _; (with_reducible repeat (first | refine qae ?_ _ | refine qag ?_ | refine qaf ?_ _)); refine blk_far ?_ qbu.out _; (with_reducible repeat (first | refine qae ?_ _ | refine qag ?_ | refine qaf ?_ _)); exact qbk.out) qcf.out (by simp)); have n1_ := qau (KeepBut.blk hk (g' := qbl) (o := .cells #[.string qbj, .int .i64 qbi, .int .i64 qbh] 61 (0, 0)) (by (with_reducible repeat (first | refine qae ?_ _ | refine qag ?_ | refine qaf ?_ _)); refine blk_put (cs := #[.string qbj, .int .i64 qbi, .int .i64 0]) ?_ 2 _ rfl; (with_reducible repeat (first | refine qae ?_ _ | refine qag ?_ | refine qaf ?_ _)); refine blk_put (cs := #[.string qbj, .int .i64 0, .int .i64 0]) ?_ 1 _ rfl; (with_reducible repeat (first | refine qae ?_ _ | refine qag ?_ | refine qaf ?_ _)); refine blk_put (cs := #[.string (⟨#[]⟩ : ByteArray), .int .i64 0, .int .i64 0]) ?_ 0 _ rfl; (with_reducible repeat (first | refine qae ?_ _ | refine qag ?_ | refine qaf ?_ _)); exact qbm.out) qce.out (by simp)); have n2_ := qau (hb); have n3_ := qau (hi); clear qbk; clear qbm; clear HB; clear qbg; have qbk := n0_; have qbm := n1_; have HB := n2_; have qbg := n3_; clear n0_ n1_ n2_ n3_; (try clear hb); (try clear hk); (try clear hi); have hnb99 := qbu.out; have hnc99 := qcd.out; have hnb100 := qcf.out; have hnc100 := qbo.out; have qej : w98.cell? ⟨qbn, 0, none⟩ = some (.string qbj) := (qal qbk.out 0).trans rfl; have qek : w98.cell? ⟨qbn, 1, none⟩ = some (.int .i64 qbi) := (qal qbk.out 1).trans rfl; have qel : w98.cell? ⟨qbn, 2, none⟩ = some (.int .i64 qbh) := (qal qbk.out 2).trans rfl; have qem := qam qbk.out 0; have qen := qam qbk.out 1; have qeo := qam qbk.out 2; have p237 : 0 ≤ (qbr : Int) := of_decide_eq_true (by first | (with_reducible assumption) | assumption); have q237 : qbr < (l1.length : Int) := of_decide_eq_true (by first | (with_reducible assumption) | assumption); obtain ⟨ad237, e237, hx237_0, hx237_1⟩ := at_T63 HR1.out qbr p237 q237; obtain rfl : ad190 = ad237 := (by injection e237); replace hx237_0 := (HB.out.cell (qad w _ hx237_0)).trans hx237_0; replace hx237_1 := (HB.out.cell (qad w _ hx237_1)).trans hx237_1; replace p237 := eq_true p237; replace q237 := eq_true q237; have hnb102 := qce.out; have hnc102 := qbp.out; have qep : w98.cell? ⟨qbl, 0, none⟩ = some (.string qbj) := (qal qbm.out 0).trans rfl; have qeq : w98.cell? ⟨qbl, 1, none⟩ = some (.int .i64 qbi) := (qal qbm.out 1).trans rfl; have qer : w98.cell? ⟨qbl, 2, none⟩ = some (.int .i64 qbh) := (qal qbm.out 2).trans rfl; have qes := qam qbm.out 0; have qet := qam qbm.out 1; have qeu := qam qbm.out 2))
               go_meet
               case rel => exact ⟨_, (true), (t234), (t235), (t236), (qbj), (qbi), ((rd_T63 l1 qbr).f1), (by first | rfl | (simp; done) | (simp [*]; done)), H', ⟨by have := HJ3.out; have := HK2.out; first | omega | exact Nat.le_refl _⟩, ⟨by (with_reducible repeat (first | refine qae ?_ _ | refine qag ?_ | refine qaf ?_ _)); refine blk_far ?_ qbu.out _; (with_reducible repeat (first | refine qae ?_ _ | refine qag ?_ | refine qaf ?_ _)); exact qbk.out⟩, ⟨by (with_reducible repeat (first | refine qae ?_ _ | refine qag ?_ | refine qaf ?_ _)); refine blk_put (cs := #[.string qbj, .int .i64 qbi, .int .i64 qbh]) ?_ 2 _ rfl; (with_reducible repeat (first | refine qae ?_ _ | refine qag ?_ | refine qaf ?_ _)); exact qbm.out⟩, ⟨by repeat (first | (with_reducible first | exact qbg.out | apply qax | apply qba | apply qaz | apply qbd | apply qbe | apply qbf | refine qbb ?_ qbo.out _ | refine qbb ?_ qbp.out _) | exact qbg.out)⟩, ⟨by repeat (first | (with_reducible first | exact HB.out | apply qak | apply qai | apply qaj | refine qah ?_ (qbc qbg.out) | refine qah ?_ qbv.out | refine qah ?_ qbz.out) | exact HB.out)⟩⟩
              ·rw [if_neg c97] at H
               have c97b0 : (qbh == 0) = false := beq_eq_false_iff_ne.mpr c97
               have c97b1 : (qbh != 0) = true := bne_iff_ne.mpr c97
               have H' := qau H
               clear H
               have p233 : 0 ≤ (qbr : Int) := of_decide_eq_true (by first | (with_reducible assumption) | assumption)
               have q233 : qbr < (l1.length : Int) := of_decide_eq_true (by first | (with_reducible assumption) | assumption)
               obtain ⟨ad233, e233, hx233_0, hx233_1⟩ := at_T63 HR1.out qbr p233 q233
               obtain rfl : ad190 = ad233 := (by injection e233)
               have hn233_0 : ad190.block ≠ qbl := qap (qao (by have := qad _ _ hx233_0; first | rwa [qav] at this | exact this) qdb.out)
               have hn233_1 : ad190.block ≠ qbl := qap (qao (by have := qad _ _ hx233_0; first | rwa [qav] at this | exact this) qdb.out)
               have hn233_2 : ad190.block ≠ qbl := qap (qao (by have := qad _ _ hx233_0; first | rwa [qav] at this | exact this) qdb.out)
               replace hx233_0 := (HB.out.cell (qad w _ hx233_0)).trans hx233_0
               replace hx233_1 := (HB.out.cell (qad w _ hx233_1)).trans hx233_1
               replace hx233_0 := (qan (p := ⟨qbl, 0, none⟩) (by first | (rw [qav]; exact hn233_0) | (show (Addr.add _ _).block ≠ _; rw [qav]; exact hn233_0) | exact hn233_0) (.string qbj)).trans hx233_0
               replace hx233_1 := (qan (p := ⟨qbl, 0, none⟩) (by first | (rw [qav]; exact hn233_0) | (show (Addr.add _ _).block ≠ _; rw [qav]; exact hn233_0) | exact hn233_0) (.string qbj)).trans hx233_1
               replace hx233_0 := (qan (p := ⟨qbl, 1, none⟩) (by first | (rw [qav]; exact hn233_1) | (show (Addr.add _ _).block ≠ _; rw [qav]; exact hn233_1) | exact hn233_1) (.int .i64 qbi)).trans hx233_0
               replace hx233_1 := (qan (p := ⟨qbl, 1, none⟩) (by first | (rw [qav]; exact hn233_1) | (show (Addr.add _ _).block ≠ _; rw [qav]; exact hn233_1) | exact hn233_1) (.int .i64 qbi)).trans hx233_1
               replace hx233_0 := (qan (p := ⟨qbl, 2, none⟩) (by first | (rw [qav]; exact hn233_2) | (show (Addr.add _ _).block ≠ _; rw [qav]; exact hn233_2) | exact hn233_2) (.int .i64 qbh)).trans hx233_0
               replace hx233_1 := (qan (p := ⟨qbl, 2, none⟩) (by first | (rw [qav]; exact hn233_2) | (show (Addr.add _ _).block ≠ _; rw [qav]; exact hn233_2) | exact hn233_2) (.int .i64 qbh)).trans hx233_1
               clear hn233_0
               clear hn233_1
               clear hn233_2
               replace p233 := eq_true p233
               replace q233 := eq_true q233
               go_wp2_with (first | ((with_reducible refine gate_callee (f := 37) rfl ?_); refine goesL_ (some 136) rfl rfl Try.func37 (by kernel_rfl) rfl #[.pointer (some ⟨g186, 0, none⟩), .int .i64 ((rd_T63 l1 qbr).f1)] rfl (by (try simp only [qar, qas, qat]); first | done | rfl) ?_; (with_reducible refine (octet_Reader_Fail.calls g186 qbw qbx qby ((rd_T63 l1 qbr).f1) t234 t235 t236 w _ ?side1 ?side2 A96.out).mono ?_); (case side1 => repeat (first | (with_reducible first | exact qbg.out | apply qax | apply qba | apply qaz | apply qbd | apply qbe | apply qbf | refine qbb ?_ qbo.out _ | refine qbb ?_ qbp.out _) | exact qbg.out)); (case side2 => repeat (first | (with_reducible first | exact HB.out | apply qak | apply qai | apply qaj | refine qah ?_ (qbc qbg.out) | refine qah ?_ qbv.out | refine qah ?_ qbz.out) | exact HB.out)); rintro e w104 ⟨rfl, hi, hb, hk⟩; refine ⟨_, rfl, ?_⟩; have n0_ := qau (KeepBut.blk hk (g' := qbn) (o := .cells #[.string qbj, .int .i64 qbi, .int .i64 qbh] 61 (0, 0)) (by (with_reducible repeat (first | refine qae ?_ _ | refine qag ?_ | refine qaf ?_ _)); refine blk_far ?_ qbu.out _; (with_reducible repeat (first | refine qae ?_ _ | refine qag ?_ | refine qaf ?_ _)); refine blk_far ?_ qbu.out _; (with_reducible repeat (first | refine qae ?_ _ | refine qag ?_ | refine qaf ?_ _)); refine blk_far ?_ qbu.out _; (with_reducible repeat (first | refine qae ?_ _ | refine qag ?_ | refine qaf ?_ _)); exact qbk.out) qcf.out (by simp)); have n1_ := qau (KeepBut.blk hk (g' := qbl) (o := .cells #[.string qbj, .int .i64 qbi, .int .i64 qbh] 61 (0, 0)) (by (with_reducible repeat (first | refine qae ?_ _ | refine qag ?_ | refine qaf ?_ _)); refine blk_put (cs := #[.string qbj, .int .i64 qbi, .int .i64 0]) ?_ 2 _ rfl; (with_reducible repeat (first | refine qae ?_ _ | refine qag ?_ | refine qaf ?_ _)); refine blk_put (cs := #[.string qbj, .int .i64 0, .int .i64 0]) ?_ 1 _ rfl; (with_reducible repeat (first | refine qae ?_ _ | refine qag ?_ | refine qaf ?_ _)); refine blk_put (cs := #[.string (⟨#[]⟩ : ByteArray), .int .i64 0, .int .i64 0]) ?_ 0 _ rfl; (with_reducible repeat (first | refine qae ?_ _ | refine qag ?_ | refine qaf ?_ _)); exact qbm.out) qce.out (by simp)); have n2_ := qau (hb); have n3_ := qau (hi); clear qbk; clear qbm; clear HB; clear qbg; have qbk := n0_; have qbm := n1_; have HB := n2_; have qbg := n3_; clear n0_ n1_ n2_ n3_; (try clear hb); (try clear hk); (try clear hi); have hnb105 := qbu.out; have hnc105 := qcd.out; have hnb106 := qcf.out; have hnc106 := qbo.out; have qev : w104.cell? ⟨qbn, 0, none⟩ = some (.string qbj) := (qal qbk.out 0).trans rfl; have qew : w104.cell? ⟨qbn, 1, none⟩ = some (.int .i64 qbi) := (qal qbk.out 1).trans rfl; have qex : w104.cell? ⟨qbn, 2, none⟩ = some (.int .i64 qbh) := (qal qbk.out 2).trans rfl; have qey := qam qbk.out 0; have qez := qam qbk.out 1; have qfa := qam qbk.out 2))
               go_meet
               case rel => exact ⟨_, (true), (t234), (t235), (t236), (qbj), (qbi), (qbh), (by first | rfl | (simp; done) | (simp [*]; done)), H', ⟨by have := HJ3.out; have := HK2.out; first | omega | exact Nat.le_refl _⟩, ⟨by (with_reducible repeat (first | refine qae ?_ _ | refine qag ?_ | refine qaf ?_ _)); exact qbk.out⟩, ⟨by (with_reducible repeat (first | refine qae ?_ _ | refine qag ?_ | refine qaf ?_ _)); exact qbm.out⟩, ⟨by repeat (first | (with_reducible first | exact qbg.out | apply qax | apply qba | apply qaz | apply qbd | apply qbe | apply qbf | refine qbb ?_ qbo.out _ | refine qbb ?_ qbp.out _) | exact qbg.out)⟩, ⟨by repeat (first | (with_reducible first | exact HB.out | apply qak | apply qai | apply qaj | refine qah ?_ (qbc qbg.out) | refine qah ?_ qbv.out | refine qah ?_ qbz.out) | exact HB.out)⟩⟩
             ·as_aux_lemma =>
              rw [if_neg c95] at H
              have c95b0 : (((rd_T63 l1 qbr).f0) == 4) = false := beq_eq_false_iff_ne.mpr c95
              have c95b1 : (((rd_T63 l1 qbr).f0) != 4) = true := bne_iff_ne.mpr c95
              replace H := Option.bind_eq_some_iff.mp H
              obtain ⟨⟨t238, t239, t240⟩, A1080, H⟩ := H
              replace H : ((octet_Reader_End.f qbw qbx qby).bind fun bt241 => (j2 k2 l1 qbr (bt241.1 == t240) bt241.2.1 bt241.2.2.1 bt241.2.2.2 t238 t239 t240)) = some r := H
              have A108 := qau A1080
              clear A1080
              replace H := Option.bind_eq_some_iff.mp H
              obtain ⟨⟨t241, t242, t243, t244⟩, A1090, H⟩ := H
              replace H : (j2 k2 l1 qbr (t241 == t240) t242 t243 t244 t238 t239 t240) = some r := H
              have A109 := qau A1090
              clear A1090
              have H' := qau H
              clear H
              have hnb110 := qbu.out
              have hnc110 := qcd.out
              have hnb111 := qcf.out
              have hnc111 := qbo.out
              have qfb : w19.cell? ⟨qbn, 0, none⟩ = some (.string qbj) := (qal qbk.out 0).trans rfl
              have qfc : w19.cell? ⟨qbn, 1, none⟩ = some (.int .i64 qbi) := (qal qbk.out 1).trans rfl
              have qfd : w19.cell? ⟨qbn, 2, none⟩ = some (.int .i64 qbh) := (qal qbk.out 2).trans rfl
              have qfe := qam qbk.out 0
              have qff := qam qbk.out 1
              have qfg := qam qbk.out 2
              try go_wp2_with (first | ((with_reducible refine gate_callee (f := 38) rfl ?_); refine goesL_ (some 42) rfl rfl Try.func38 (by kernel_rfl) rfl #[.agg #[.string qbj, .int .i64 qbi, .int .i64 qbh]] rfl (by (try simp only [qar, qas, qat]); first | done | rfl) ?_; (with_reducible refine (stowageref01_Reader_End.calls qbj qbi qbh t238 t239 t240 _ A108.out).mono ?_); rintro e w113 ⟨rfl, hb⟩; refine ⟨_, rfl, ?_⟩; have n0_ := qau (blk_below (g := qbn) (o := .cells #[.string qbj, .int .i64 qbi, .int .i64 qbh] 61 (0, 0)) (by (with_reducible repeat (first | refine qae ?_ _ | refine qag ?_ | refine qaf ?_ _)); refine blk_far ?_ qbu.out _; (with_reducible repeat (first | refine qae ?_ _ | refine qag ?_ | refine qaf ?_ _)); refine blk_far ?_ qbu.out _; (with_reducible repeat (first | refine qae ?_ _ | refine qag ?_ | refine qaf ?_ _)); refine blk_far ?_ qbu.out _; (with_reducible repeat (first | refine qae ?_ _ | refine qag ?_ | refine qaf ?_ _)); exact qbk.out) hb); have n1_ := qau (qay (show IsS83 w (((w19.setCell ⟨qbl, 0, none⟩ (.string qbj)).setCell ⟨qbl, 1, none⟩ (.int .i64 qbi)).setCell ⟨qbl, 2, none⟩ (.int .i64 qbh)) g186 qbw qbx qby from by repeat (first | (with_reducible first | exact qbg.out | apply qax | apply qba | apply qaz | apply qbd | apply qbe | apply qbf | refine qbb ?_ qbo.out _ | refine qbb ?_ qbp.out _) | exact qbg.out)) hb); have n2_ := qau (blk_below (g := qbl) (o := .cells #[.string qbj, .int .i64 qbi, .int .i64 qbh] 61 (0, 0)) (by (with_reducible repeat (first | refine qae ?_ _ | refine qag ?_ | refine qaf ?_ _)); refine blk_put (cs := #[.string qbj, .int .i64 qbi, .int .i64 0]) ?_ 2 _ rfl; (with_reducible repeat (first | refine qae ?_ _ | refine qag ?_ | refine qaf ?_ _)); refine blk_put (cs := #[.string qbj, .int .i64 0, .int .i64 0]) ?_ 1 _ rfl; (with_reducible repeat (first | refine qae ?_ _ | refine qag ?_ | refine qaf ?_ _)); refine blk_put (cs := #[.string (⟨#[]⟩ : ByteArray), .int .i64 0, .int .i64 0]) ?_ 0 _ rfl; (with_reducible repeat (first | refine qae ?_ _ | refine qag ?_ | refine qaf ?_ _)); exact qbm.out) hb); have n3_ := qau (below_step (by repeat (first | (with_reducible first | exact HB.out | apply qak | apply qai | apply qaj | refine qah ?_ (qbc qbg.out) | refine qah ?_ qbv.out | refine qah ?_ qbz.out) | exact HB.out)) hb); clear qbk; clear qbg; clear qbm; clear HB; have qbk := n0_; have qbg := n1_; have qbm := n2_; have HB := n3_; clear n0_ n1_ n2_ n3_; (try clear hb); (try clear hk); (try clear hi); have hnb114 := qce.out; have hnc114 := qbp.out; have qfh : w113.cell? ⟨qbl, 0, none⟩ = some (.string qbj) := (qal qbm.out 0).trans rfl; have qfi : w113.cell? ⟨qbl, 1, none⟩ = some (.int .i64 qbi) := (qal qbm.out 1).trans rfl; have qfj : w113.cell? ⟨qbl, 2, none⟩ = some (.int .i64 qbh) := (qal qbm.out 2).trans rfl; have qfk := qam qbm.out 0; have qfl := qam qbm.out 1; have qfm := qam qbm.out 2))
              have n0_ : Aside0 ((((w113.setCell ⟨qbl, 0, none⟩ (.string t238)).setCell ⟨qbl, 1, none⟩ (.int .i64 t239)).setCell ⟨qbl, 2, none⟩ (.int .i64 t240)).heap[qbn]? = some (.cells #[.string qbj, .int .i64 qbi, .int .i64 qbh] 61 (0, 0))) := ⟨by (with_reducible repeat (first | refine qae ?_ _ | refine qag ?_ | refine qaf ?_ _)); refine blk_far ?_ qbu.out _; (with_reducible repeat (first | refine qae ?_ _ | refine qag ?_ | refine qaf ?_ _)); refine blk_far ?_ qbu.out _; (with_reducible repeat (first | refine qae ?_ _ | refine qag ?_ | refine qaf ?_ _)); refine blk_far ?_ qbu.out _; (with_reducible repeat (first | refine qae ?_ _ | refine qag ?_ | refine qaf ?_ _)); exact qbk.out⟩
              have n1_ : Aside0 ((((w113.setCell ⟨qbl, 0, none⟩ (.string t238)).setCell ⟨qbl, 1, none⟩ (.int .i64 t239)).setCell ⟨qbl, 2, none⟩ (.int .i64 t240)).heap[qbl]? = some (.cells #[.string t238, .int .i64 t239, .int .i64 t240] 61 (0, 0))) := ⟨by (with_reducible repeat (first | refine qae ?_ _ | refine qag ?_ | refine qaf ?_ _)); refine blk_put (cs := #[.string t238, .int .i64 t239, .int .i64 qbh]) ?_ 2 _ rfl; (with_reducible repeat (first | refine qae ?_ _ | refine qag ?_ | refine qaf ?_ _)); refine blk_put (cs := #[.string t238, .int .i64 qbi, .int .i64 qbh]) ?_ 1 _ rfl; (with_reducible repeat (first | refine qae ?_ _ | refine qag ?_ | refine qaf ?_ _)); refine blk_put (cs := #[.string qbj, .int .i64 qbi, .int .i64 qbh]) ?_ 0 _ rfl; (with_reducible repeat (first | refine qae ?_ _ | refine qag ?_ | refine qaf ?_ _)); exact qbm.out⟩
              have n2_ : Aside0 (IsS83 w (((w113.setCell ⟨qbl, 0, none⟩ (.string t238)).setCell ⟨qbl, 1, none⟩ (.int .i64 t239)).setCell ⟨qbl, 2, none⟩ (.int .i64 t240)) g186 qbw qbx qby) := ⟨by repeat (first | (with_reducible first | exact qbg.out | apply qax | apply qba | apply qaz | apply qbd | apply qbe | apply qbf | refine qbb ?_ qbo.out _ | refine qbb ?_ qbp.out _) | exact qbg.out)⟩
              have n3_ : Aside0 (Below w.heap.size w (((w113.setCell ⟨qbl, 0, none⟩ (.string t238)).setCell ⟨qbl, 1, none⟩ (.int .i64 t239)).setCell ⟨qbl, 2, none⟩ (.int .i64 t240))) := ⟨by repeat (first | (with_reducible first | exact HB.out | apply qak | apply qai | apply qaj | refine qah ?_ (qbc qbg.out) | refine qah ?_ qbv.out | refine qah ?_ qbz.out) | exact HB.out)⟩
              (try clear qbk)
              (try clear qbm)
              (try clear qbg)
              (try clear HB)
              generalize (((w113.setCell ⟨qbl, 0, none⟩ (.string t238)).setCell ⟨qbl, 1, none⟩ (.int .i64 t239)).setCell ⟨qbl, 2, none⟩ (.int .i64 t240)) = w116 at n0_ n1_ n2_ n3_ ⊢
              have qbk := n0_
              have qbm := n1_
              have qbg := n2_
              have HB := n3_
              clear n0_ n1_ n2_ n3_
              have n0_ := qau (qag qbk.out)
              have n1_ := qau (qag qbm.out)
              have n2_ := qau (qaz qbg.out)
              have n3_ := qau (qaj HB.out)
              clear qbk
              clear qbm
              clear qbg
              clear HB
              have qbk := n0_
              have qbm := n1_
              have qbg := n2_
              have HB := n3_
              clear n0_ n1_ n2_ n3_
              refine start_ (n := 6) (S := fun w' => w'.cell? ⟨qbl, 0, none⟩ = some (.string t238) ∧ w'.cell? ⟨qbl, 1, none⟩ = some (.int .i64 t239) ∧ w'.cell? ⟨qbl, 2, none⟩ = some (.int .i64 t240)) (ds := []) #[false, false, false, false, false, false] (by kernel_rfl) rfl rfl ⟨(qal qbm.out 0).trans rfl, (qal qbm.out 1).trans rfl, (qal qbm.out 2).trans rfl⟩ (fun hHeld => ?_)
              generalize w116.drew = w117 at qbk qbm qbg HB hHeld ⊢
              refine pure_ (i := 0) (N := some 43) (v := ?_) (a' := ?_) #[true, false, false, false, false, false] rfl rfl (by kernel_rfl) (fun _ _ _ h => h) (Or.inl ⟨by rfl, ?_⟩) ?_ ?_
              rotate_left
              ·intro w'
               go_simp
               with_reducible rfl
              rotate_left
              ·simp only [Act.put, qaa, qab, qac, i64_w, i32_w]
               rfl
              refine pure_ (i := 2) (N := some 45) (v := ?_) (a' := ?_) #[true, false, true, false, false, false] rfl rfl (by kernel_rfl) (fun _ _ _ h => h) (Or.inl ⟨by rfl, ?_⟩) ?_ ?_
              rotate_left
              ·intro w'
               go_simp
               with_reducible rfl
              rotate_left
              ·simp only [Act.put, qaa, qab, qac, i64_w, i32_w]
               rfl
              refine take_ (i := 3) (N := some 46) (v := ?_) (a' := ?_) #[true, false, true, true, false, false] rfl rfl (by kernel_rfl) (fun _ _ _ h => h) (Or.inl ⟨by rfl, ?_⟩) hHeld ?_ ?_
              rotate_left
              ·rintro w' ⟨s0, s1, s2⟩
               go_simp
               with_reducible rfl
              rotate_left
              ·simp only [Act.put, qaa, qab, qac, i64_w, i32_w]
               rfl
              refine one_ (i := 1) (N := some 44) #[true, true, true, true, false, false] rfl rfl (by kernel_rfl) (by decide) (fun K hK => ?_)
              refine goes_ Try.func39 (by kernel_rfl) rfl #[.pointer (some ⟨g186, 0, none⟩)] (by rfl) rfl rfl (by (try simp only [qar, qas, qat]); first | done | rfl) ?_
              with_reducible refine (octet_Reader_End.calls g186 qbw qbx qby t241 t242 t243 t244 w _ ?side1 ?side2 A109.out).mono ?_
              (case side1 => repeat (first | (with_reducible first | exact qbg.out | apply qax | apply qba | apply qaz | apply qbd | apply qbe | apply qbf | refine qbb ?_ qbo.out _ | refine qbb ?_ qbp.out _) | exact qbg.out))
              (case side2 => repeat (first | (with_reducible first | exact HB.out | apply qak | apply qai | apply qaj | refine qah ?_ (qbc qbg.out) | refine qah ?_ qbv.out | refine qah ?_ qbz.out) | exact HB.out))
              rintro e w118 ⟨rfl, hi, hb, hk⟩
              refine ⟨_, rfl, ?_⟩
              have n0_ := qau (KeepBut.blk hk (g' := qbn) (o := .cells #[.string qbj, .int .i64 qbi, .int .i64 qbh] 61 (0, 0)) (by (with_reducible repeat (first | refine qae ?_ _ | refine qag ?_ | refine qaf ?_ _)); exact qbk.out) qcf.out (by simp))
              have n1_ := qau (KeepBut.blk hk (g' := qbl) (o := .cells #[.string t238, .int .i64 t239, .int .i64 t240] 61 (0, 0)) (by (with_reducible repeat (first | refine qae ?_ _ | refine qag ?_ | refine qaf ?_ _)); exact qbm.out) qce.out (by simp))
              have n2_ := qau (hb)
              have n3_ := qau (hi)
              clear qbk
              clear qbm
              clear HB
              clear qbg
              have qbk := n0_
              have qbm := n1_
              have HB := n2_
              have qbg := n3_
              clear n0_ n1_ n2_ n3_
              (try clear hb)
              (try clear hb2)
              (try clear hk)
              (try clear hi)
              refine hK.out _ _ ⟨(qal qbm.out 0).trans rfl, (qal qbm.out 1).trans rfl, (qal qbm.out 2).trans rfl⟩ (fun hHeld => ?_)
              clear hK K
              refine norm_ (a' := ?_) ?_ ?_
              rotate_left
              ·show Act.put _ (some 44) _ = _
               simp only [Act.put, qaa, qab, qac, i64_w, i32_w]
               rfl
              refine pure_ (i := 4) (N := some 47) (v := ?_) (a' := ?_) #[true, true, true, true, true, false] rfl rfl (by kernel_rfl) (fun _ _ _ h => h) (Or.inl ⟨by rfl, ?_⟩) ?_ ?_
              rotate_left
              ·intro w'
               go_simp
               with_reducible rfl
              rotate_left
              ·simp only [Act.put, qaa, qab, qac, i64_w, i32_w]
               rfl
              refine pure_ (i := 5) (N := some 9) (v := ?_) (a' := ?_) #[true, true, true, true, true, true] rfl rfl (by kernel_rfl) (fun _ _ _ h => h) (Or.inl ⟨by rfl, ?_⟩) ?_ ?_
              rotate_left
              ·intro w'
               go_simp
               with_reducible rfl
              rotate_left
              ·simp only [Act.put, qaa, qab, qac, i64_w, i32_w]
               rfl
              refine done_ (by kernel_rfl) ?_
              try go_wp2
              go_meet
              case rel => exact ⟨_, ((t241 == t240)), (t242), (t243), (t244), (t238), (t239), (t240), (by first | rfl | (simp; done) | (simp [*]; done)), H', ⟨by have := HJ3.out; have := HK2.out; first | omega | exact Nat.le_refl _⟩, ⟨by (with_reducible repeat (first | refine qae ?_ _ | refine qag ?_ | refine qaf ?_ _)); exact qbk.out⟩, ⟨by (with_reducible repeat (first | refine qae ?_ _ | refine qag ?_ | refine qaf ?_ _)); exact qbm.out⟩, ⟨by repeat (first | (with_reducible first | exact qbg.out | apply qax | apply qba | apply qaz | apply qbd | apply qbe | apply qbf | refine qbb ?_ qbo.out _ | refine qbb ?_ qbp.out _) | exact qbg.out)⟩, ⟨by repeat (first | (with_reducible first | exact HB.out | apply qak | apply qai | apply qaj | refine qah ?_ (qbc qbg.out) | refine qah ?_ qbv.out | refine qah ?_ qbz.out) | exact HB.out)⟩⟩
        case rest =>
         clear HC16
         try clear c1
         try clear p2
         try clear q2
         try clear hx2
         try clear c3
         try clear c6
         try clear c7
         try clear c8
         try clear c9
         try clear c10
         try clear c11
         try clear p21
         try clear q21
         try clear hx21
         try clear p23
         try clear q23
         try clear hx23
         try clear c33
         try clear c34
         try clear c35
         try clear c36
         try clear c37
         try clear c38
         try clear c39
         try clear c61
         try clear c61b0
         try clear c61b1
         try clear c72
         try clear c73
         try clear c74
         try clear c76
         try clear c77
         try clear c80
         try clear c80b0
         try clear c80b1
         try clear c83
         try clear c84
         try clear c88
         try clear c89
         try clear c90
         try clear c92
         try clear c95
         try clear c95b0
         try clear c95b1
         try clear c97
         try clear c97b0
         try clear c97b1
         try clear c99
         try clear c100
         try clear c102
         try clear c105
         try clear c106
         try clear c110
         try clear c111
         try clear c114
         try clear qej
         try clear qek
         try clear qel
         try clear qep
         try clear qeq
         try clear qer
         try clear qev
         try clear qew
         try clear qex
         try clear qfb
         try clear qfc
         try clear qfd
         try clear qfh
         try clear qfi
         try clear qfj
         try clear qfp
         try clear qfq
         try clear qfr
         try clear qfv
         try clear qfw
         try clear qfx
         try clear qgb
         try clear qgc
         try clear qgd
         try clear qgh
         try clear qgi
         try clear qgj
         try clear qgn
         try clear qgo
         try clear qgp
         try clear qem
         try clear qen
         try clear qeo
         try clear qes
         try clear qet
         try clear qeu
         try clear qey
         try clear qez
         try clear qfa
         try clear qfe
         try clear qff
         try clear qfg
         try clear qfk
         try clear qfl
         try clear qfm
         try clear qfs
         try clear qft
         try clear qfu
         try clear qfy
         try clear qfz
         try clear qga
         try clear qge
         try clear qgf
         try clear qgg
         try clear qgk
         try clear qgl
         try clear qgm
         try clear qgq
         try clear qgr
         try clear qgs
         try clear hx219_0
         try clear hx219_1
         try clear hx233_0
         try clear hx233_1
         try clear hx237_0
         try clear hx237_1
         try clear p219
         try clear p233
         try clear p237
         try clear q219
         try clear q233
         try clear q237
         obtain ⟨kq, qdz, qcm, qcn, qco, qbs, qbq, qbt, rfl, HA, HJ15, qbk, qbm, qbg, HB⟩ := hcut
         cases kq with
         | zero => exact absurd HA.out (by simp [j2])
         | succ kj15 =>
          have H := HA.out
          clear HA
          simp only [j2] at H
          by_cases c119 : qdz = true
          ·focus
           subst c119
           have H1 : ((octet_Reader_Err.f qcm qcn qco).bind fun bt245 => (if bt245.1 = qbt then ((octet_Reader_At.f bt245.2.1 bt245.2.2.1 bt245.2.2.2).bind fun bt249 => (if bt249.1 = qbq then (l0 kj15 l1 (wrap64 (qbr + 1)) bt249.2.1 bt249.2.2.1 bt249.2.2.2 qbs qbq qbt) else (some false))) else (some false))) = some r := by rw [if_pos rfl] at H; exact H
           clear H
           have H := H1
           clear H1
           replace H := Option.bind_eq_some_iff.mp H
           obtain ⟨⟨t245, t246, t247, t248⟩, A1200, H⟩ := H
           replace H : (if t245 = qbt then ((octet_Reader_At.f t246 t247 t248).bind fun bt249 => (if bt249.1 = qbq then (l0 kj15 l1 (wrap64 (qbr + 1)) bt249.2.1 bt249.2.2.1 bt249.2.2.2 qbs qbq qbt) else (some false))) else (some false)) = some r := H
           have A120 := qau A1200
           clear A1200
           by_cases c121 : t245 = qbt
           ·focus
            rw [if_pos c121] at H
            have c121b0 : (t245 == qbt) = true := beq_iff_eq.mpr c121
            have c121b1 : (t245 != qbt) = false := bne_eq_false_iff_eq.mpr c121
            clear c121
            replace H := Option.bind_eq_some_iff.mp H
            obtain ⟨⟨t249, t250, t251, t252⟩, A1220, H⟩ := H
            replace H : (if t249 = qbq then (l0 kj15 l1 (wrap64 (qbr + 1)) t250 t251 t252 qbs qbq qbt) else (some false)) = some r := H
            have A122 := qau A1220
            clear A1220
            by_cases c123 : t249 = qbq
            ·as_aux_lemma =>
             rw [if_pos c123] at H
             have c123b0 : (t249 == qbq) = true := beq_iff_eq.mpr c123
             have c123b1 : (t249 != qbq) = false := bne_eq_false_iff_eq.mpr c123
             clear c123
             have H' := qau H
             clear H
             have hnb124 := qcd.out
             have hnc124 := qbu.out
             have hnb125 := qce.out
             have hnc125 := qbp.out
             have qgt : wc.cell? ⟨qbl, 0, none⟩ = some (.string qbs) := (qal qbm.out 0).trans rfl
             have qgu : wc.cell? ⟨qbl, 1, none⟩ = some (.int .i64 qbq) := (qal qbm.out 1).trans rfl
             have qgv : wc.cell? ⟨qbl, 2, none⟩ = some (.int .i64 qbt) := (qal qbm.out 2).trans rfl
             have qgw := qam qbm.out 0
             have qgx := qam qbm.out 1
             have qgy := qam qbm.out 2
             have hnb127 := qcf.out
             have hnc127 := qbo.out
             have qgz : wc.cell? ⟨qbn, 0, none⟩ = some (.string qbj) := (qal qbk.out 0).trans rfl
             have qha : wc.cell? ⟨qbn, 1, none⟩ = some (.int .i64 qbi) := (qal qbk.out 1).trans rfl
             have qhb : wc.cell? ⟨qbn, 2, none⟩ = some (.int .i64 qbh) := (qal qbk.out 2).trans rfl
             have qhc := qam qbk.out 0
             have qhd := qam qbk.out 1
             have qhe := qam qbk.out 2
             try go_wp2
             have n0_ : Aside0 ((((wc.setCell ⟨qbn, 0, none⟩ (.string qbs)).setCell ⟨qbn, 1, none⟩ (.int .i64 qbq)).setCell ⟨qbn, 2, none⟩ (.int .i64 qbt)).heap[qbn]? = some (.cells #[.string qbs, .int .i64 qbq, .int .i64 qbt] 61 (0, 0))) := ⟨by (with_reducible repeat (first | refine qae ?_ _ | refine qag ?_ | refine qaf ?_ _)); refine blk_put (cs := #[.string qbs, .int .i64 qbq, .int .i64 qbh]) ?_ 2 _ rfl; (with_reducible repeat (first | refine qae ?_ _ | refine qag ?_ | refine qaf ?_ _)); refine blk_put (cs := #[.string qbs, .int .i64 qbi, .int .i64 qbh]) ?_ 1 _ rfl; (with_reducible repeat (first | refine qae ?_ _ | refine qag ?_ | refine qaf ?_ _)); refine blk_put (cs := #[.string qbj, .int .i64 qbi, .int .i64 qbh]) ?_ 0 _ rfl; (with_reducible repeat (first | refine qae ?_ _ | refine qag ?_ | refine qaf ?_ _)); exact qbk.out⟩
             have n1_ : Aside0 ((((wc.setCell ⟨qbn, 0, none⟩ (.string qbs)).setCell ⟨qbn, 1, none⟩ (.int .i64 qbq)).setCell ⟨qbn, 2, none⟩ (.int .i64 qbt)).heap[qbl]? = some (.cells #[.string qbs, .int .i64 qbq, .int .i64 qbt] 61 (0, 0))) := ⟨by (with_reducible repeat (first | refine qae ?_ _ | refine qag ?_ | refine qaf ?_ _)); refine blk_far ?_ qcd.out _; (with_reducible repeat (first | refine qae ?_ _ | refine qag ?_ | refine qaf ?_ _)); refine blk_far ?_ qcd.out _; (with_reducible repeat (first | refine qae ?_ _ | refine qag ?_ | refine qaf ?_ _)); refine blk_far ?_ qcd.out _; (with_reducible repeat (first | refine qae ?_ _ | refine qag ?_ | refine qaf ?_ _)); exact qbm.out⟩
             have n2_ : Aside0 (IsS83 w (((wc.setCell ⟨qbn, 0, none⟩ (.string qbs)).setCell ⟨qbn, 1, none⟩ (.int .i64 qbq)).setCell ⟨qbn, 2, none⟩ (.int .i64 qbt)) g186 qcm qcn qco) := ⟨by repeat (first | (with_reducible first | exact qbg.out | apply qax | apply qba | apply qaz | apply qbd | apply qbe | apply qbf | refine qbb ?_ qbo.out _ | refine qbb ?_ qbp.out _) | exact qbg.out)⟩
             have n3_ : Aside0 (Below w.heap.size w (((wc.setCell ⟨qbn, 0, none⟩ (.string qbs)).setCell ⟨qbn, 1, none⟩ (.int .i64 qbq)).setCell ⟨qbn, 2, none⟩ (.int .i64 qbt))) := ⟨by repeat (first | (with_reducible first | exact HB.out | apply qak | apply qai | apply qaj | refine qah ?_ (qbc qbg.out) | refine qah ?_ qbv.out | refine qah ?_ qbz.out) | exact HB.out)⟩
             (try clear qbk)
             (try clear qbm)
             (try clear qbg)
             (try clear HB)
             generalize (((wc.setCell ⟨qbn, 0, none⟩ (.string qbs)).setCell ⟨qbn, 1, none⟩ (.int .i64 qbq)).setCell ⟨qbn, 2, none⟩ (.int .i64 qbt)) = w129 at n0_ n1_ n2_ n3_ ⊢
             have qbk := n0_
             have qbm := n1_
             have qbg := n2_
             have HB := n3_
             clear n0_ n1_ n2_ n3_
             have n0_ := qau (qag qbk.out)
             have n1_ := qau (qag qbm.out)
             have n2_ := qau (qaz qbg.out)
             have n3_ := qau (qaj HB.out)
             clear qbk
             clear qbm
             clear qbg
             clear HB
             have qbk := n0_
             have qbm := n1_
             have qbg := n2_
             have HB := n3_
             clear n0_ n1_ n2_ n3_
             refine start_ (n := 16) (S := fun w' => w'.cell? ⟨qbn, 0, none⟩ = some (.string qbs) ∧ w'.cell? ⟨qbn, 1, none⟩ = some (.int .i64 qbq) ∧ w'.cell? ⟨qbn, 2, none⟩ = some (.int .i64 qbt)) (ds := []) sq37 (by kernel_rfl) rfl rfl ⟨(qal qbk.out 0).trans rfl, (qal qbk.out 1).trans rfl, (qal qbk.out 2).trans rfl⟩ (fun hHeld => ?_); refine with_tabW tab34 bits34 (fun HT_ HW_ => ?_)
             generalize w129.drew = w130 at qbk qbm qbg HB hHeld ⊢
             refine pure_ (i := 0) (N := some 147) (v := ?_) (a' := ?_) sq38 rfl rfl (any_of HT_.out (by kernel_rfl)) (fun _ _ _ h => h) (Or.inl ⟨by rfl, ?_⟩) ?_ ?_
             rotate_left
             ·intro w'
              go_simp
              with_reducible rfl
             rotate_left
             ·simp only [Act.put, qaa, qab, qac, i64_w, i32_w]
              rfl
             refine pure_ (i := 1) (N := some 148) (v := ?_) (a' := ?_) sq39 rfl rfl (any_of HT_.out (by kernel_rfl)) (fun _ _ _ h => h) (Or.inl ⟨by rfl, ?_⟩) ?_ ?_
             rotate_left
             ·intro w'
              go_simp
              with_reducible rfl
             rotate_left
             ·simp only [Act.put, qaa, qab, qac, i64_w, i32_w]
              rfl
             refine pure_ (i := 2) (N := some 149) (v := ?_) (a' := ?_) sq40 rfl rfl (any_of HT_.out (by kernel_rfl)) (fun _ _ _ h => h) (Or.inl ⟨by rfl, ?_⟩) ?_ ?_
             rotate_left
             ·intro w'
              go_simp
              with_reducible rfl
             rotate_left
             ·simp only [Act.put, qaa, qab, qac, i64_w, i32_w]
              rfl
             refine pure_ (i := 3) (N := some 150) (v := ?_) (a' := ?_) sq41 rfl rfl (any_of HT_.out (by kernel_rfl)) (fun _ _ _ h => h) (Or.inl ⟨by rfl, ?_⟩) ?_ ?_
             rotate_left
             ·intro w'
              go_simp
              with_reducible rfl
             rotate_left
             ·simp only [Act.put, qaa, qab, qac, i64_w, i32_w]
              rfl
             refine pure_ (i := 5) (N := some 152) (v := ?_) (a' := ?_) sq42 rfl rfl (any_of HT_.out (by kernel_rfl)) (fun _ _ _ h => h) (Or.inl ⟨by rfl, ?_⟩) ?_ ?_
             rotate_left
             ·intro w'
              go_simp
              with_reducible rfl
             rotate_left
             ·simp only [Act.put, qaa, qab, qac, i64_w, i32_w]
              rfl
             refine take_ (i := 6) (N := some 153) (v := ?_) (a' := ?_) sq43 rfl rfl (take_ofW HT_.out HW_.out (by kernel_rfl)) (fun _ _ _ h => h) (Or.inl ⟨by rfl, ?_⟩) hHeld ?_ ?_
             rotate_left
             ·rintro w' ⟨s0, s1, s2⟩
              go_simp
              with_reducible rfl
             rotate_left
             ·simp only [Act.put, qaa, qab, qac, i64_w, i32_w]
              rfl
             refine one_ (i := 4) (N := some 151) sq44 rfl rfl (one_of HT_.out (by kernel_rfl)) (by decide) (fun K hK => ?_)
             refine goes_ Try.func40 (by kernel_rfl) rfl #[.pointer (some ⟨g186, 0, none⟩)] (by rfl) rfl rfl (by (try simp only [qar, qas, qat]); first | done | rfl) ?_
             with_reducible refine (octet_Reader_Err.calls g186 qcm qcn qco t245 t246 t247 t248 w _ ?side1 ?side2 A120.out).mono ?_
             (case side1 => repeat (first | (with_reducible first | exact qbg.out | apply qax | apply qba | apply qaz | apply qbd | apply qbe | apply qbf | refine qbb ?_ qbo.out _ | refine qbb ?_ qbp.out _) | exact qbg.out))
             (case side2 => repeat (first | (with_reducible first | exact HB.out | apply qak | apply qai | apply qaj | refine qah ?_ (qbc qbg.out) | refine qah ?_ qbv.out | refine qah ?_ qbz.out) | exact HB.out))
             rintro e w131 ⟨rfl, hi, hb, hk⟩
             refine ⟨_, rfl, ?_⟩
             have n0_ := qau (KeepBut.blk hk (g' := qbn) (o := .cells #[.string qbs, .int .i64 qbq, .int .i64 qbt] 61 (0, 0)) (by (with_reducible repeat (first | refine qae ?_ _ | refine qag ?_ | refine qaf ?_ _)); exact qbk.out) qcf.out (by simp))
             have n1_ := qau (KeepBut.blk hk (g' := qbl) (o := .cells #[.string qbs, .int .i64 qbq, .int .i64 qbt] 61 (0, 0)) (by (with_reducible repeat (first | refine qae ?_ _ | refine qag ?_ | refine qaf ?_ _)); exact qbm.out) qce.out (by simp))
             have n2_ := qau (hb)
             have n3_ := qau (hi)
             clear qbk
             clear qbm
             clear HB
             clear qbg
             have qbk := n0_
             have qbm := n1_
             have HB := n2_
             have qbg := n3_
             clear n0_ n1_ n2_ n3_
             (try clear hb)
             (try clear hb2)
             (try clear hk)
             (try clear hi)
             refine hK.out _ _ ⟨(qal qbk.out 0).trans rfl, (qal qbk.out 1).trans rfl, (qal qbk.out 2).trans rfl⟩ (fun hHeld => ?_)
             clear hK K
             refine norm_ (a' := ?_) ?_ ?_
             rotate_left
             ·show Act.put _ (some 151) _ = _
              simp only [Act.put, qaa, qab, qac, i64_w, i32_w]
              rfl
             refine pure_ (i := 7) (N := some 154) (v := ?_) (a' := ?_) sq45 rfl rfl (any_of HT_.out (by kernel_rfl)) (fun _ _ _ h => h) (Or.inl ⟨by rfl, ?_⟩) ?_ ?_
             rotate_left
             ·intro w'
              go_simp
              with_reducible rfl
             rotate_left
             ·simp only [Act.put, qaa, qab, qac, i64_w, i32_w]
              rfl
             refine pure_ (i := 8) (N := some 155) (v := ?_) (a' := ?_) sq46 rfl rfl (any_of HT_.out (by kernel_rfl)) (fun _ _ _ h => h) (Or.inl ⟨by rfl, ?_⟩) ?_ ?_
             rotate_left
             ·intro w'
              go_simp
              with_reducible rfl
             rotate_left
             ·simp only [Act.put, qaa, qab, qac, i64_w, i32_w]
              rfl
             refine pure_ (i := 9) (N := some 156) (v := ?_) (a' := ?_) sq47 rfl rfl (any_of HT_.out (by kernel_rfl)) (fun _ _ _ h => h) (Or.inl ⟨by rfl, ?_⟩) ?_ ?_
             rotate_left
             ·intro w'
              go_simp
              with_reducible rfl
             rotate_left
             ·simp only [Act.put, qaa, qab, qac, i64_w, i32_w]
              rfl
             refine pure_ (i := 10) (N := some 157) (v := ?_) (a' := ?_) sq48 rfl rfl (any_of HT_.out (by kernel_rfl)) (fun _ _ _ h => h) (Or.inl ⟨by rfl, ?_⟩) ?_ ?_
             rotate_left
             ·intro w'
              go_simp
              with_reducible rfl
             rotate_left
             ·simp only [Act.put, qaa, qab, qac, i64_w, i32_w]
              rfl
             refine pure_ (i := 12) (N := some 159) (v := ?_) (a' := ?_) sq49 rfl rfl (any_of HT_.out (by kernel_rfl)) (fun _ _ _ h => h) (Or.inl ⟨by rfl, ?_⟩) ?_ ?_
             rotate_left
             ·intro w'
              go_simp
              with_reducible rfl
             rotate_left
             ·simp only [Act.put, qaa, qab, qac, i64_w, i32_w]
              rfl
             refine take_ (i := 13) (N := some 160) (v := ?_) (a' := ?_) sq50 rfl rfl (take_ofW HT_.out HW_.out (by kernel_rfl)) (fun _ _ _ h => h) (Or.inl ⟨by rfl, ?_⟩) hHeld ?_ ?_
             rotate_left
             ·rintro w' ⟨s0, s1, s2⟩
              go_simp
              with_reducible rfl
             rotate_left
             ·simp only [Act.put, qaa, qab, qac, i64_w, i32_w]
              rfl
             refine one_ (i := 11) (N := some 158) sq51 rfl rfl (one_of HT_.out (by kernel_rfl)) (by decide) (fun K hK => ?_)
             refine goes_ Try.func41 (by kernel_rfl) rfl #[.pointer (some ⟨g186, 0, none⟩)] (by rfl) rfl rfl (by (try simp only [qar, qas, qat]); first | done | rfl) ?_
             with_reducible refine (octet_Reader_At.calls g186 t246 t247 t248 t249 t250 t251 t252 w _ ?side1 ?side2 A122.out).mono ?_
             (case side1 => repeat (first | (with_reducible first | exact qbg.out | apply qax | apply qba | apply qaz | apply qbd | apply qbe | apply qbf | refine qbb ?_ qbo.out _ | refine qbb ?_ qbp.out _) | exact qbg.out))
             (case side2 => repeat (first | (with_reducible first | exact HB.out | apply qak | apply qai | apply qaj | refine qah ?_ (qbc qbg.out) | refine qah ?_ qbv.out | refine qah ?_ qbz.out) | exact HB.out))
             rintro e w132 ⟨rfl, hi, hb, hk⟩
             refine ⟨_, rfl, ?_⟩
             have n0_ := qau (KeepBut.blk hk (g' := qbn) (o := .cells #[.string qbs, .int .i64 qbq, .int .i64 qbt] 61 (0, 0)) (by (with_reducible repeat (first | refine qae ?_ _ | refine qag ?_ | refine qaf ?_ _)); exact qbk.out) qcf.out (by simp))
             have n1_ := qau (KeepBut.blk hk (g' := qbl) (o := .cells #[.string qbs, .int .i64 qbq, .int .i64 qbt] 61 (0, 0)) (by (with_reducible repeat (first | refine qae ?_ _ | refine qag ?_ | refine qaf ?_ _)); exact qbm.out) qce.out (by simp))
             have n2_ := qau (hb)
             have n3_ := qau (hi)
             clear qbk
             clear qbm
             clear HB
             clear qbg
             have qbk := n0_
             have qbm := n1_
             have HB := n2_
             have qbg := n3_
             clear n0_ n1_ n2_ n3_
             (try clear hb)
             (try clear hb2)
             (try clear hk)
             (try clear hi)
             refine hK.out _ _ ⟨(qal qbk.out 0).trans rfl, (qal qbk.out 1).trans rfl, (qal qbk.out 2).trans rfl⟩ (fun hHeld => ?_)
             clear hK K
             refine norm_ (a' := ?_) ?_ ?_
             rotate_left
             ·show Act.put _ (some 158) _ = _
              simp only [Act.put, qaa, qab, qac, i64_w, i32_w]
              rfl
             refine pure_ (i := 14) (N := some 161) (v := ?_) (a' := ?_) sq52 rfl rfl (any_of HT_.out (by kernel_rfl)) (fun _ _ _ h => h) (Or.inl ⟨by rfl, ?_⟩) ?_ ?_
             rotate_left
             ·intro w'
              go_simp
              with_reducible rfl
             rotate_left
             ·simp only [Act.put, qaa, qab, qac, i64_w, i32_w]
              rfl
             refine pure_ (i := 15) (N := some 162) (v := ?_) (a' := ?_) sq53 rfl rfl (any_of HT_.out (by kernel_rfl)) (fun _ _ _ h => h) (Or.inl ⟨by rfl, ?_⟩) ?_ ?_
             rotate_left
             ·intro w'
              go_simp
              with_reducible rfl
             rotate_left
             ·simp only [Act.put, qaa, qab, qac, i64_w, i32_w]
              rfl
             refine done_ (done_of HT_.out (by kernel_rfl)) ?_
             try go_wp2
             go_roundg kj15
             case measure => have := HJ3.out; have := HK2.out; have := HJ15.out; omega
             case rel => exact ⟨(wrap64 (qbr + 1)), (t250), (t251), (t252), (qbs), (qbq), (qbt), (by first | rfl | (simp; done) | (simp [*]; done)), H', ⟨by have := HJ3.out; have := HK2.out; have := HJ15.out; omega⟩, ⟨by (with_reducible repeat (first | refine qae ?_ _ | refine qag ?_ | refine qaf ?_ _)); exact qbk.out⟩, ⟨by repeat (first | (with_reducible first | exact qbg.out | apply qax | apply qba | apply qaz | apply qbd | apply qbe | apply qbf | refine qbb ?_ qbo.out _ | refine qbb ?_ qbp.out _) | exact qbg.out)⟩, ⟨by repeat (first | (with_reducible first | exact HB.out | apply qak | apply qai | apply qaj | refine qah ?_ (qbc qbg.out) | refine qah ?_ qbv.out | refine qah ?_ qbz.out) | exact HB.out)⟩⟩
            ·as_aux_lemma =>
             rw [if_neg c123] at H
             have c123b0 : (t249 == qbq) = false := beq_eq_false_iff_ne.mpr c123
             have c123b1 : (t249 != qbq) = true := bne_iff_ne.mpr c123
             obtain rfl := Option.some.inj H
             have hnb133 := qcd.out
             have hnc133 := qbu.out
             have hnb134 := qce.out
             have hnc134 := qbp.out
             have qhf : wc.cell? ⟨qbl, 0, none⟩ = some (.string qbs) := (qal qbm.out 0).trans rfl
             have qhg : wc.cell? ⟨qbl, 1, none⟩ = some (.int .i64 qbq) := (qal qbm.out 1).trans rfl
             have qhh : wc.cell? ⟨qbl, 2, none⟩ = some (.int .i64 qbt) := (qal qbm.out 2).trans rfl
             have qhi := qam qbm.out 0
             have qhj := qam qbm.out 1
             have qhk := qam qbm.out 2
             have hnb136 := qcf.out
             have hnc136 := qbo.out
             have qhl : wc.cell? ⟨qbn, 0, none⟩ = some (.string qbj) := (qal qbk.out 0).trans rfl
             have qhm : wc.cell? ⟨qbn, 1, none⟩ = some (.int .i64 qbi) := (qal qbk.out 1).trans rfl
             have qhn : wc.cell? ⟨qbn, 2, none⟩ = some (.int .i64 qbh) := (qal qbk.out 2).trans rfl
             have qho := qam qbk.out 0
             have qhp := qam qbk.out 1
             have qhq := qam qbk.out 2
             try go_wp2
             have n0_ : Aside0 ((((wc.setCell ⟨qbn, 0, none⟩ (.string qbs)).setCell ⟨qbn, 1, none⟩ (.int .i64 qbq)).setCell ⟨qbn, 2, none⟩ (.int .i64 qbt)).heap[qbn]? = some (.cells #[.string qbs, .int .i64 qbq, .int .i64 qbt] 61 (0, 0))) := ⟨by (with_reducible repeat (first | refine qae ?_ _ | refine qag ?_ | refine qaf ?_ _)); refine blk_put (cs := #[.string qbs, .int .i64 qbq, .int .i64 qbh]) ?_ 2 _ rfl; (with_reducible repeat (first | refine qae ?_ _ | refine qag ?_ | refine qaf ?_ _)); refine blk_put (cs := #[.string qbs, .int .i64 qbi, .int .i64 qbh]) ?_ 1 _ rfl; (with_reducible repeat (first | refine qae ?_ _ | refine qag ?_ | refine qaf ?_ _)); refine blk_put (cs := #[.string qbj, .int .i64 qbi, .int .i64 qbh]) ?_ 0 _ rfl; (with_reducible repeat (first | refine qae ?_ _ | refine qag ?_ | refine qaf ?_ _)); exact qbk.out⟩
             have n1_ : Aside0 ((((wc.setCell ⟨qbn, 0, none⟩ (.string qbs)).setCell ⟨qbn, 1, none⟩ (.int .i64 qbq)).setCell ⟨qbn, 2, none⟩ (.int .i64 qbt)).heap[qbl]? = some (.cells #[.string qbs, .int .i64 qbq, .int .i64 qbt] 61 (0, 0))) := ⟨by (with_reducible repeat (first | refine qae ?_ _ | refine qag ?_ | refine qaf ?_ _)); refine blk_far ?_ qcd.out _; (with_reducible repeat (first | refine qae ?_ _ | refine qag ?_ | refine qaf ?_ _)); refine blk_far ?_ qcd.out _; (with_reducible repeat (first | refine qae ?_ _ | refine qag ?_ | refine qaf ?_ _)); refine blk_far ?_ qcd.out _; (with_reducible repeat (first | refine qae ?_ _ | refine qag ?_ | refine qaf ?_ _)); exact qbm.out⟩
             have n2_ : Aside0 (IsS83 w (((wc.setCell ⟨qbn, 0, none⟩ (.string qbs)).setCell ⟨qbn, 1, none⟩ (.int .i64 qbq)).setCell ⟨qbn, 2, none⟩ (.int .i64 qbt)) g186 qcm qcn qco) := ⟨by repeat (first | (with_reducible first | exact qbg.out | apply qax | apply qba | apply qaz | apply qbd | apply qbe | apply qbf | refine qbb ?_ qbo.out _ | refine qbb ?_ qbp.out _) | exact qbg.out)⟩
             have n3_ : Aside0 (Below w.heap.size w (((wc.setCell ⟨qbn, 0, none⟩ (.string qbs)).setCell ⟨qbn, 1, none⟩ (.int .i64 qbq)).setCell ⟨qbn, 2, none⟩ (.int .i64 qbt))) := ⟨by repeat (first | (with_reducible first | exact HB.out | apply qak | apply qai | apply qaj | refine qah ?_ (qbc qbg.out) | refine qah ?_ qbv.out | refine qah ?_ qbz.out) | exact HB.out)⟩
             (try clear qbk)
             (try clear qbm)
             (try clear qbg)
             (try clear HB)
             generalize (((wc.setCell ⟨qbn, 0, none⟩ (.string qbs)).setCell ⟨qbn, 1, none⟩ (.int .i64 qbq)).setCell ⟨qbn, 2, none⟩ (.int .i64 qbt)) = w138 at n0_ n1_ n2_ n3_ ⊢
             have qbk := n0_
             have qbm := n1_
             have qbg := n2_
             have HB := n3_
             clear n0_ n1_ n2_ n3_
             have n0_ := qau (qag qbk.out)
             have n1_ := qau (qag qbm.out)
             have n2_ := qau (qaz qbg.out)
             have n3_ := qau (qaj HB.out)
             clear qbk
             clear qbm
             clear qbg
             clear HB
             have qbk := n0_
             have qbm := n1_
             have qbg := n2_
             have HB := n3_
             clear n0_ n1_ n2_ n3_
             refine start_ (n := 16) (S := fun w' => w'.cell? ⟨qbn, 0, none⟩ = some (.string qbs) ∧ w'.cell? ⟨qbn, 1, none⟩ = some (.int .i64 qbq) ∧ w'.cell? ⟨qbn, 2, none⟩ = some (.int .i64 qbt)) (ds := []) sq37 (by kernel_rfl) rfl rfl ⟨(qal qbk.out 0).trans rfl, (qal qbk.out 1).trans rfl, (qal qbk.out 2).trans rfl⟩ (fun hHeld => ?_); refine with_tabW tab34 bits34 (fun HT_ HW_ => ?_)
             generalize w138.drew = w139 at qbk qbm qbg HB hHeld ⊢
             refine pure_ (i := 0) (N := some 147) (v := ?_) (a' := ?_) sq38 rfl rfl (any_of HT_.out (by kernel_rfl)) (fun _ _ _ h => h) (Or.inl ⟨by rfl, ?_⟩) ?_ ?_
             rotate_left
             ·intro w'
              go_simp
              with_reducible rfl
             rotate_left
             ·simp only [Act.put, qaa, qab, qac, i64_w, i32_w]
              rfl
             refine pure_ (i := 1) (N := some 148) (v := ?_) (a' := ?_) sq39 rfl rfl (any_of HT_.out (by kernel_rfl)) (fun _ _ _ h => h) (Or.inl ⟨by rfl, ?_⟩) ?_ ?_
             rotate_left
             ·intro w'
              go_simp
              with_reducible rfl
             rotate_left
             ·simp only [Act.put, qaa, qab, qac, i64_w, i32_w]
              rfl
             refine pure_ (i := 2) (N := some 149) (v := ?_) (a' := ?_) sq40 rfl rfl (any_of HT_.out (by kernel_rfl)) (fun _ _ _ h => h) (Or.inl ⟨by rfl, ?_⟩) ?_ ?_
             rotate_left
             ·intro w'
              go_simp
              with_reducible rfl
             rotate_left
             ·simp only [Act.put, qaa, qab, qac, i64_w, i32_w]
              rfl
             refine pure_ (i := 3) (N := some 150) (v := ?_) (a' := ?_) sq41 rfl rfl (any_of HT_.out (by kernel_rfl)) (fun _ _ _ h => h) (Or.inl ⟨by rfl, ?_⟩) ?_ ?_
             rotate_left
             ·intro w'
              go_simp
              with_reducible rfl
             rotate_left
             ·simp only [Act.put, qaa, qab, qac, i64_w, i32_w]
              rfl
             refine pure_ (i := 5) (N := some 152) (v := ?_) (a' := ?_) sq42 rfl rfl (any_of HT_.out (by kernel_rfl)) (fun _ _ _ h => h) (Or.inl ⟨by rfl, ?_⟩) ?_ ?_
             rotate_left
             ·intro w'
              go_simp
              with_reducible rfl
             rotate_left
             ·simp only [Act.put, qaa, qab, qac, i64_w, i32_w]
              rfl
             refine take_ (i := 6) (N := some 153) (v := ?_) (a' := ?_) sq43 rfl rfl (take_ofW HT_.out HW_.out (by kernel_rfl)) (fun _ _ _ h => h) (Or.inl ⟨by rfl, ?_⟩) hHeld ?_ ?_
             rotate_left
             ·rintro w' ⟨s0, s1, s2⟩
              go_simp
              with_reducible rfl
             rotate_left
             ·simp only [Act.put, qaa, qab, qac, i64_w, i32_w]
              rfl
             refine one_ (i := 4) (N := some 151) sq44 rfl rfl (one_of HT_.out (by kernel_rfl)) (by decide) (fun K hK => ?_)
             refine goes_ Try.func40 (by kernel_rfl) rfl #[.pointer (some ⟨g186, 0, none⟩)] (by rfl) rfl rfl (by (try simp only [qar, qas, qat]); first | done | rfl) ?_
             with_reducible refine (octet_Reader_Err.calls g186 qcm qcn qco t245 t246 t247 t248 w _ ?side1 ?side2 A120.out).mono ?_
             (case side1 => repeat (first | (with_reducible first | exact qbg.out | apply qax | apply qba | apply qaz | apply qbd | apply qbe | apply qbf | refine qbb ?_ qbo.out _ | refine qbb ?_ qbp.out _) | exact qbg.out))
             (case side2 => repeat (first | (with_reducible first | exact HB.out | apply qak | apply qai | apply qaj | refine qah ?_ (qbc qbg.out) | refine qah ?_ qbv.out | refine qah ?_ qbz.out) | exact HB.out))
             rintro e w140 ⟨rfl, hi, hb, hk⟩
             refine ⟨_, rfl, ?_⟩
             have n0_ := qau (KeepBut.blk hk (g' := qbn) (o := .cells #[.string qbs, .int .i64 qbq, .int .i64 qbt] 61 (0, 0)) (by (with_reducible repeat (first | refine qae ?_ _ | refine qag ?_ | refine qaf ?_ _)); exact qbk.out) qcf.out (by simp))
             have n1_ := qau (KeepBut.blk hk (g' := qbl) (o := .cells #[.string qbs, .int .i64 qbq, .int .i64 qbt] 61 (0, 0)) (by (with_reducible repeat (first | refine qae ?_ _ | refine qag ?_ | refine qaf ?_ _)); exact qbm.out) qce.out (by simp))
             have n2_ := qau (hb)
             have n3_ := qau (hi)
             clear qbk
             clear qbm
             clear HB
             clear qbg
             have qbk := n0_
             have qbm := n1_
             have HB := n2_
             have qbg := n3_
             clear n0_ n1_ n2_ n3_
             (try clear hb)
             (try clear hb2)
             (try clear hk)
             (try clear hi)
             refine hK.out _ _ ⟨(qal qbk.out 0).trans rfl, (qal qbk.out 1).trans rfl, (qal qbk.out 2).trans rfl⟩ (fun hHeld => ?_)
             clear hK K
             refine norm_ (a' := ?_) ?_ ?_
             rotate_left
             ·show Act.put _ (some 151) _ = _
              simp only [Act.put, qaa, qab, qac, i64_w, i32_w]
              rfl
             refine pure_ (i := 7) (N := some 154) (v := ?_) (a' := ?_) sq45 rfl rfl (any_of HT_.out (by kernel_rfl)) (fun _ _ _ h => h) (Or.inl ⟨by rfl, ?_⟩) ?_ ?_
             rotate_left
             ·intro w'
              go_simp
              with_reducible rfl
             rotate_left
             ·simp only [Act.put, qaa, qab, qac, i64_w, i32_w]
              rfl
             refine pure_ (i := 8) (N := some 155) (v := ?_) (a' := ?_) sq46 rfl rfl (any_of HT_.out (by kernel_rfl)) (fun _ _ _ h => h) (Or.inl ⟨by rfl, ?_⟩) ?_ ?_
             rotate_left
             ·intro w'
              go_simp
              with_reducible rfl
             rotate_left
             ·simp only [Act.put, qaa, qab, qac, i64_w, i32_w]
              rfl
             refine pure_ (i := 9) (N := some 156) (v := ?_) (a' := ?_) sq47 rfl rfl (any_of HT_.out (by kernel_rfl)) (fun _ _ _ h => h) (Or.inl ⟨by rfl, ?_⟩) ?_ ?_
             rotate_left
             ·intro w'
              go_simp
              with_reducible rfl
             rotate_left
             ·simp only [Act.put, qaa, qab, qac, i64_w, i32_w]
              rfl
             refine pure_ (i := 10) (N := some 157) (v := ?_) (a' := ?_) sq48 rfl rfl (any_of HT_.out (by kernel_rfl)) (fun _ _ _ h => h) (Or.inl ⟨by rfl, ?_⟩) ?_ ?_
             rotate_left
             ·intro w'
              go_simp
              with_reducible rfl
             rotate_left
             ·simp only [Act.put, qaa, qab, qac, i64_w, i32_w]
              rfl
             refine pure_ (i := 12) (N := some 159) (v := ?_) (a' := ?_) sq49 rfl rfl (any_of HT_.out (by kernel_rfl)) (fun _ _ _ h => h) (Or.inl ⟨by rfl, ?_⟩) ?_ ?_
             rotate_left
             ·intro w'
              go_simp
              with_reducible rfl
             rotate_left
             ·simp only [Act.put, qaa, qab, qac, i64_w, i32_w]
              rfl
             refine take_ (i := 13) (N := some 160) (v := ?_) (a' := ?_) sq50 rfl rfl (take_ofW HT_.out HW_.out (by kernel_rfl)) (fun _ _ _ h => h) (Or.inl ⟨by rfl, ?_⟩) hHeld ?_ ?_
             rotate_left
             ·rintro w' ⟨s0, s1, s2⟩
              go_simp
              with_reducible rfl
             rotate_left
             ·simp only [Act.put, qaa, qab, qac, i64_w, i32_w]
              rfl
             refine one_ (i := 11) (N := some 158) sq51 rfl rfl (one_of HT_.out (by kernel_rfl)) (by decide) (fun K hK => ?_)
             refine goes_ Try.func41 (by kernel_rfl) rfl #[.pointer (some ⟨g186, 0, none⟩)] (by rfl) rfl rfl (by (try simp only [qar, qas, qat]); first | done | rfl) ?_
             with_reducible refine (octet_Reader_At.calls g186 t246 t247 t248 t249 t250 t251 t252 w _ ?side1 ?side2 A122.out).mono ?_
             (case side1 => repeat (first | (with_reducible first | exact qbg.out | apply qax | apply qba | apply qaz | apply qbd | apply qbe | apply qbf | refine qbb ?_ qbo.out _ | refine qbb ?_ qbp.out _) | exact qbg.out))
             (case side2 => repeat (first | (with_reducible first | exact HB.out | apply qak | apply qai | apply qaj | refine qah ?_ (qbc qbg.out) | refine qah ?_ qbv.out | refine qah ?_ qbz.out) | exact HB.out))
             rintro e w141 ⟨rfl, hi, hb, hk⟩
             refine ⟨_, rfl, ?_⟩
             have n0_ := qau (KeepBut.blk hk (g' := qbn) (o := .cells #[.string qbs, .int .i64 qbq, .int .i64 qbt] 61 (0, 0)) (by (with_reducible repeat (first | refine qae ?_ _ | refine qag ?_ | refine qaf ?_ _)); exact qbk.out) qcf.out (by simp))
             have n1_ := qau (KeepBut.blk hk (g' := qbl) (o := .cells #[.string qbs, .int .i64 qbq, .int .i64 qbt] 61 (0, 0)) (by (with_reducible repeat (first | refine qae ?_ _ | refine qag ?_ | refine qaf ?_ _)); exact qbm.out) qce.out (by simp))
             have n2_ := qau (hb)
             have n3_ := qau (hi)
             clear qbk
             clear qbm
             clear HB
             clear qbg
             have qbk := n0_
             have qbm := n1_
             have HB := n2_
             have qbg := n3_
             clear n0_ n1_ n2_ n3_
             (try clear hb)
             (try clear hb2)
             (try clear hk)
             (try clear hi)
             refine hK.out _ _ ⟨(qal qbk.out 0).trans rfl, (qal qbk.out 1).trans rfl, (qal qbk.out 2).trans rfl⟩ (fun hHeld => ?_)
             clear hK K
             refine norm_ (a' := ?_) ?_ ?_
             rotate_left
             ·show Act.put _ (some 158) _ = _
              simp only [Act.put, qaa, qab, qac, i64_w, i32_w]
              rfl
             refine pure_ (i := 14) (N := some 161) (v := ?_) (a' := ?_) sq52 rfl rfl (any_of HT_.out (by kernel_rfl)) (fun _ _ _ h => h) (Or.inl ⟨by rfl, ?_⟩) ?_ ?_
             rotate_left
             ·intro w'
              go_simp
              with_reducible rfl
             rotate_left
             ·simp only [Act.put, qaa, qab, qac, i64_w, i32_w]
              rfl
             refine pure_ (i := 15) (N := some 162) (v := ?_) (a' := ?_) sq53 rfl rfl (any_of HT_.out (by kernel_rfl)) (fun _ _ _ h => h) (Or.inl ⟨by rfl, ?_⟩) ?_ ?_
             rotate_left
             ·intro w'
              go_simp
              with_reducible rfl
             rotate_left
             ·simp only [Act.put, qaa, qab, qac, i64_w, i32_w]
              rfl
             refine done_ (done_of HT_.out (by kernel_rfl)) ?_
             try go_wp2
             go_ret
             exact ⟨by first | rfl | (simp [errW_none, errW_some] <;> rfl) | (simp [*, errW_none, errW_some] <;> rfl), by repeat (first | (with_reducible first | exact HB.out | apply qak | apply qai | apply qaj | refine qah ?_ (qbc qbg.out) | refine qah ?_ qbv.out | refine qah ?_ qbz.out) | exact HB.out)⟩
           ·as_aux_lemma =>
            rw [if_neg c121] at H
            have c121b0 : (t245 == qbt) = false := beq_eq_false_iff_ne.mpr c121
            have c121b1 : (t245 != qbt) = true := bne_iff_ne.mpr c121
            obtain rfl := Option.some.inj H
            have hnb142 := qcd.out
            have hnc142 := qbu.out
            have hnb143 := qce.out
            have hnc143 := qbp.out
            have qhr : wc.cell? ⟨qbl, 0, none⟩ = some (.string qbs) := (qal qbm.out 0).trans rfl
            have qhs : wc.cell? ⟨qbl, 1, none⟩ = some (.int .i64 qbq) := (qal qbm.out 1).trans rfl
            have qht : wc.cell? ⟨qbl, 2, none⟩ = some (.int .i64 qbt) := (qal qbm.out 2).trans rfl
            have qhu := qam qbm.out 0
            have qhv := qam qbm.out 1
            have qhw := qam qbm.out 2
            have hnb145 := qcf.out
            have hnc145 := qbo.out
            have qhx : wc.cell? ⟨qbn, 0, none⟩ = some (.string qbj) := (qal qbk.out 0).trans rfl
            have qhy : wc.cell? ⟨qbn, 1, none⟩ = some (.int .i64 qbi) := (qal qbk.out 1).trans rfl
            have qhz : wc.cell? ⟨qbn, 2, none⟩ = some (.int .i64 qbh) := (qal qbk.out 2).trans rfl
            have qia := qam qbk.out 0
            have qib := qam qbk.out 1
            have qic := qam qbk.out 2
            try go_wp2
            have n0_ : Aside0 ((((wc.setCell ⟨qbn, 0, none⟩ (.string qbs)).setCell ⟨qbn, 1, none⟩ (.int .i64 qbq)).setCell ⟨qbn, 2, none⟩ (.int .i64 qbt)).heap[qbn]? = some (.cells #[.string qbs, .int .i64 qbq, .int .i64 qbt] 61 (0, 0))) := ⟨by (with_reducible repeat (first | refine qae ?_ _ | refine qag ?_ | refine qaf ?_ _)); refine blk_put (cs := #[.string qbs, .int .i64 qbq, .int .i64 qbh]) ?_ 2 _ rfl; (with_reducible repeat (first | refine qae ?_ _ | refine qag ?_ | refine qaf ?_ _)); refine blk_put (cs := #[.string qbs, .int .i64 qbi, .int .i64 qbh]) ?_ 1 _ rfl; (with_reducible repeat (first | refine qae ?_ _ | refine qag ?_ | refine qaf ?_ _)); refine blk_put (cs := #[.string qbj, .int .i64 qbi, .int .i64 qbh]) ?_ 0 _ rfl; (with_reducible repeat (first | refine qae ?_ _ | refine qag ?_ | refine qaf ?_ _)); exact qbk.out⟩
            have n1_ : Aside0 ((((wc.setCell ⟨qbn, 0, none⟩ (.string qbs)).setCell ⟨qbn, 1, none⟩ (.int .i64 qbq)).setCell ⟨qbn, 2, none⟩ (.int .i64 qbt)).heap[qbl]? = some (.cells #[.string qbs, .int .i64 qbq, .int .i64 qbt] 61 (0, 0))) := ⟨by (with_reducible repeat (first | refine qae ?_ _ | refine qag ?_ | refine qaf ?_ _)); refine blk_far ?_ qcd.out _; (with_reducible repeat (first | refine qae ?_ _ | refine qag ?_ | refine qaf ?_ _)); refine blk_far ?_ qcd.out _; (with_reducible repeat (first | refine qae ?_ _ | refine qag ?_ | refine qaf ?_ _)); refine blk_far ?_ qcd.out _; (with_reducible repeat (first | refine qae ?_ _ | refine qag ?_ | refine qaf ?_ _)); exact qbm.out⟩
            have n2_ : Aside0 (IsS83 w (((wc.setCell ⟨qbn, 0, none⟩ (.string qbs)).setCell ⟨qbn, 1, none⟩ (.int .i64 qbq)).setCell ⟨qbn, 2, none⟩ (.int .i64 qbt)) g186 qcm qcn qco) := ⟨by repeat (first | (with_reducible first | exact qbg.out | apply qax | apply qba | apply qaz | apply qbd | apply qbe | apply qbf | refine qbb ?_ qbo.out _ | refine qbb ?_ qbp.out _) | exact qbg.out)⟩
            have n3_ : Aside0 (Below w.heap.size w (((wc.setCell ⟨qbn, 0, none⟩ (.string qbs)).setCell ⟨qbn, 1, none⟩ (.int .i64 qbq)).setCell ⟨qbn, 2, none⟩ (.int .i64 qbt))) := ⟨by repeat (first | (with_reducible first | exact HB.out | apply qak | apply qai | apply qaj | refine qah ?_ (qbc qbg.out) | refine qah ?_ qbv.out | refine qah ?_ qbz.out) | exact HB.out)⟩
            (try clear qbk)
            (try clear qbm)
            (try clear qbg)
            (try clear HB)
            generalize (((wc.setCell ⟨qbn, 0, none⟩ (.string qbs)).setCell ⟨qbn, 1, none⟩ (.int .i64 qbq)).setCell ⟨qbn, 2, none⟩ (.int .i64 qbt)) = w147 at n0_ n1_ n2_ n3_ ⊢
            have qbk := n0_
            have qbm := n1_
            have qbg := n2_
            have HB := n3_
            clear n0_ n1_ n2_ n3_
            have n0_ := qau (qag qbk.out)
            have n1_ := qau (qag qbm.out)
            have n2_ := qau (qaz qbg.out)
            have n3_ := qau (qaj HB.out)
            clear qbk
            clear qbm
            clear qbg
            clear HB
            have qbk := n0_
            have qbm := n1_
            have qbg := n2_
            have HB := n3_
            clear n0_ n1_ n2_ n3_
            refine start_ (n := 16) (S := fun w' => w'.cell? ⟨qbn, 0, none⟩ = some (.string qbs) ∧ w'.cell? ⟨qbn, 1, none⟩ = some (.int .i64 qbq) ∧ w'.cell? ⟨qbn, 2, none⟩ = some (.int .i64 qbt)) (ds := []) sq37 (by kernel_rfl) rfl rfl ⟨(qal qbk.out 0).trans rfl, (qal qbk.out 1).trans rfl, (qal qbk.out 2).trans rfl⟩ (fun hHeld => ?_); refine with_tabW tab34 bits34 (fun HT_ HW_ => ?_)
            generalize w147.drew = w148 at qbk qbm qbg HB hHeld ⊢
            refine pure_ (i := 0) (N := some 147) (v := ?_) (a' := ?_) sq38 rfl rfl (any_of HT_.out (by kernel_rfl)) (fun _ _ _ h => h) (Or.inl ⟨by rfl, ?_⟩) ?_ ?_
            rotate_left
            ·intro w'
             go_simp
             with_reducible rfl
            rotate_left
            ·simp only [Act.put, qaa, qab, qac, i64_w, i32_w]
             rfl
            refine pure_ (i := 1) (N := some 148) (v := ?_) (a' := ?_) sq39 rfl rfl (any_of HT_.out (by kernel_rfl)) (fun _ _ _ h => h) (Or.inl ⟨by rfl, ?_⟩) ?_ ?_
            rotate_left
            ·intro w'
             go_simp
             with_reducible rfl
            rotate_left
            ·simp only [Act.put, qaa, qab, qac, i64_w, i32_w]
             rfl
            refine pure_ (i := 2) (N := some 149) (v := ?_) (a' := ?_) sq40 rfl rfl (any_of HT_.out (by kernel_rfl)) (fun _ _ _ h => h) (Or.inl ⟨by rfl, ?_⟩) ?_ ?_
            rotate_left
            ·intro w'
             go_simp
             with_reducible rfl
            rotate_left
            ·simp only [Act.put, qaa, qab, qac, i64_w, i32_w]
             rfl
            refine pure_ (i := 3) (N := some 150) (v := ?_) (a' := ?_) sq41 rfl rfl (any_of HT_.out (by kernel_rfl)) (fun _ _ _ h => h) (Or.inl ⟨by rfl, ?_⟩) ?_ ?_
            rotate_left
            ·intro w'
             go_simp
             with_reducible rfl
            rotate_left
            ·simp only [Act.put, qaa, qab, qac, i64_w, i32_w]
             rfl
            refine pure_ (i := 5) (N := some 152) (v := ?_) (a' := ?_) sq42 rfl rfl (any_of HT_.out (by kernel_rfl)) (fun _ _ _ h => h) (Or.inl ⟨by rfl, ?_⟩) ?_ ?_
            rotate_left
            ·intro w'
             go_simp
             with_reducible rfl
            rotate_left
            ·simp only [Act.put, qaa, qab, qac, i64_w, i32_w]
             rfl
            refine take_ (i := 6) (N := some 153) (v := ?_) (a' := ?_) sq43 rfl rfl (take_ofW HT_.out HW_.out (by kernel_rfl)) (fun _ _ _ h => h) (Or.inl ⟨by rfl, ?_⟩) hHeld ?_ ?_
            rotate_left
            ·rintro w' ⟨s0, s1, s2⟩
             go_simp
             with_reducible rfl
            rotate_left
            ·simp only [Act.put, qaa, qab, qac, i64_w, i32_w]
             rfl
            refine one_ (i := 4) (N := some 151) sq44 rfl rfl (one_of HT_.out (by kernel_rfl)) (by decide) (fun K hK => ?_)
            refine goes_ Try.func40 (by kernel_rfl) rfl #[.pointer (some ⟨g186, 0, none⟩)] (by rfl) rfl rfl (by (try simp only [qar, qas, qat]); first | done | rfl) ?_
            with_reducible refine (octet_Reader_Err.calls g186 qcm qcn qco t245 t246 t247 t248 w _ ?side1 ?side2 A120.out).mono ?_
            (case side1 => repeat (first | (with_reducible first | exact qbg.out | apply qax | apply qba | apply qaz | apply qbd | apply qbe | apply qbf | refine qbb ?_ qbo.out _ | refine qbb ?_ qbp.out _) | exact qbg.out))
            (case side2 => repeat (first | (with_reducible first | exact HB.out | apply qak | apply qai | apply qaj | refine qah ?_ (qbc qbg.out) | refine qah ?_ qbv.out | refine qah ?_ qbz.out) | exact HB.out))
            rintro e w149 ⟨rfl, hi, hb, hk⟩
            refine ⟨_, rfl, ?_⟩
            have n0_ := qau (KeepBut.blk hk (g' := qbn) (o := .cells #[.string qbs, .int .i64 qbq, .int .i64 qbt] 61 (0, 0)) (by (with_reducible repeat (first | refine qae ?_ _ | refine qag ?_ | refine qaf ?_ _)); exact qbk.out) qcf.out (by simp))
            have n1_ := qau (KeepBut.blk hk (g' := qbl) (o := .cells #[.string qbs, .int .i64 qbq, .int .i64 qbt] 61 (0, 0)) (by (with_reducible repeat (first | refine qae ?_ _ | refine qag ?_ | refine qaf ?_ _)); exact qbm.out) qce.out (by simp))
            have n2_ := qau (hb)
            have n3_ := qau (hi)
            clear qbk
            clear qbm
            clear HB
            clear qbg
            have qbk := n0_
            have qbm := n1_
            have HB := n2_
            have qbg := n3_
            clear n0_ n1_ n2_ n3_
            (try clear hb)
            (try clear hb2)
            (try clear hk)
            (try clear hi)
            refine hK.out _ _ ⟨(qal qbk.out 0).trans rfl, (qal qbk.out 1).trans rfl, (qal qbk.out 2).trans rfl⟩ (fun hHeld => ?_)
            clear hK K
            refine norm_ (a' := ?_) ?_ ?_
            rotate_left
            ·show Act.put _ (some 151) _ = _
             simp only [Act.put, qaa, qab, qac, i64_w, i32_w]
             rfl
            refine pure_ (i := 7) (N := some 154) (v := ?_) (a' := ?_) sq45 rfl rfl (any_of HT_.out (by kernel_rfl)) (fun _ _ _ h => h) (Or.inl ⟨by rfl, ?_⟩) ?_ ?_
            rotate_left
            ·intro w'
             go_simp
             with_reducible rfl
            rotate_left
            ·simp only [Act.put, qaa, qab, qac, i64_w, i32_w]
             rfl
            refine pure_ (i := 8) (N := some 155) (v := ?_) (a' := ?_) sq46 rfl rfl (any_of HT_.out (by kernel_rfl)) (fun _ _ _ h => h) (Or.inl ⟨by rfl, ?_⟩) ?_ ?_
            rotate_left
            ·intro w'
             go_simp
             with_reducible rfl
            rotate_left
            ·simp only [Act.put, qaa, qab, qac, i64_w, i32_w]
             rfl
            refine pure_ (i := 9) (N := some 156) (v := ?_) (a' := ?_) sq47 rfl rfl (any_of HT_.out (by kernel_rfl)) (fun _ _ _ h => h) (Or.inl ⟨by rfl, ?_⟩) ?_ ?_
            rotate_left
            ·intro w'
             go_simp
             with_reducible rfl
            rotate_left
            ·simp only [Act.put, qaa, qab, qac, i64_w, i32_w]
             rfl
            refine pure_ (i := 10) (N := some 157) (v := undef) (a' := ?_) sq48 rfl rfl (any_of HT_.out (by kernel_rfl)) (fun _ _ _ h => h) (Or.inr ⟨by rfl, rfl⟩) ?_ ?_
            rotate_left
            ·simp only [Act.put, qaa, qab, qac, i64_w, i32_w]
             rfl
            refine pure_ (i := 11) (N := some 158) (v := undef) (a' := ?_) sq54 rfl rfl (any_of HT_.out (by kernel_rfl)) (fun _ _ _ h => h) (Or.inr ⟨by rfl, rfl⟩) ?_ ?_
            rotate_left
            ·simp only [Act.put, qaa, qab, qac, i64_w, i32_w]
             rfl
            refine pure_ (i := 12) (N := some 159) (v := undef) (a' := ?_) sq55 rfl rfl (any_of HT_.out (by kernel_rfl)) (fun _ _ _ h => h) (Or.inr ⟨by rfl, rfl⟩) ?_ ?_
            rotate_left
            ·simp only [Act.put, qaa, qab, qac, i64_w, i32_w]
             rfl
            refine pure_ (i := 13) (N := some 160) (v := undef) (a' := ?_) sq51 rfl rfl (any_of HT_.out (by kernel_rfl)) (fun _ _ _ h => h) (Or.inr ⟨by rfl, rfl⟩) ?_ ?_
            rotate_left
            ·simp only [Act.put, qaa, qab, qac, i64_w, i32_w]
             rfl
            refine pure_ (i := 14) (N := some 161) (v := undef) (a' := ?_) sq52 rfl rfl (any_of HT_.out (by kernel_rfl)) (fun _ _ _ h => h) (Or.inr ⟨by rfl, rfl⟩) ?_ ?_
            rotate_left
            ·simp only [Act.put, qaa, qab, qac, i64_w, i32_w]
             rfl
            refine pure_ (i := 15) (N := some 162) (v := ?_) (a' := ?_) sq53 rfl rfl (any_of HT_.out (by kernel_rfl)) (fun _ _ _ h => h) (Or.inl ⟨by rfl, ?_⟩) ?_ ?_
            rotate_left
            ·intro w'
             go_simp
             with_reducible rfl
            rotate_left
            ·simp only [Act.put, qaa, qab, qac, i64_w, i32_w]
             rfl
            refine done_ (done_of HT_.out (by kernel_rfl)) ?_
            try go_wp2
            go_ret
            exact ⟨by first | rfl | (simp [errW_none, errW_some] <;> rfl) | (simp [*, errW_none, errW_some] <;> rfl), by repeat (first | (with_reducible first | exact HB.out | apply qak | apply qai | apply qaj | refine qah ?_ (qbc qbg.out) | refine qah ?_ qbv.out | refine qah ?_ qbz.out) | exact HB.out)⟩
          ·as_aux_lemma =>
           replace c119 := Bool.eq_false_iff.mpr c119
           subst c119
           have H1 : (some false) = some r := by rw [if_neg (show ¬ (false = true) by decide)] at H; exact H
           clear H
           have H := H1
           clear H1
           obtain rfl := Option.some.inj H
           have hnb150 := qcd.out
           have hnc150 := qbu.out
           have hnb151 := qce.out
           have hnc151 := qbp.out
           have qid : wc.cell? ⟨qbl, 0, none⟩ = some (.string qbs) := (qal qbm.out 0).trans rfl
           have qie : wc.cell? ⟨qbl, 1, none⟩ = some (.int .i64 qbq) := (qal qbm.out 1).trans rfl
           have qif : wc.cell? ⟨qbl, 2, none⟩ = some (.int .i64 qbt) := (qal qbm.out 2).trans rfl
           have qig := qam qbm.out 0
           have qih := qam qbm.out 1
           have qii := qam qbm.out 2
           have hnb153 := qcf.out
           have hnc153 := qbo.out
           have qij : wc.cell? ⟨qbn, 0, none⟩ = some (.string qbj) := (qal qbk.out 0).trans rfl
           have qik : wc.cell? ⟨qbn, 1, none⟩ = some (.int .i64 qbi) := (qal qbk.out 1).trans rfl
           have qil : wc.cell? ⟨qbn, 2, none⟩ = some (.int .i64 qbh) := (qal qbk.out 2).trans rfl
           have qim := qam qbk.out 0
           have qin := qam qbk.out 1
           have qio := qam qbk.out 2
           try go_wp2
           have n0_ : Aside0 ((((wc.setCell ⟨qbn, 0, none⟩ (.string qbs)).setCell ⟨qbn, 1, none⟩ (.int .i64 qbq)).setCell ⟨qbn, 2, none⟩ (.int .i64 qbt)).heap[qbn]? = some (.cells #[.string qbs, .int .i64 qbq, .int .i64 qbt] 61 (0, 0))) := ⟨by (with_reducible repeat (first | refine qae ?_ _ | refine qag ?_ | refine qaf ?_ _)); refine blk_put (cs := #[.string qbs, .int .i64 qbq, .int .i64 qbh]) ?_ 2 _ rfl; (with_reducible repeat (first | refine qae ?_ _ | refine qag ?_ | refine qaf ?_ _)); refine blk_put (cs := #[.string qbs, .int .i64 qbi, .int .i64 qbh]) ?_ 1 _ rfl; (with_reducible repeat (first | refine qae ?_ _ | refine qag ?_ | refine qaf ?_ _)); refine blk_put (cs := #[.string qbj, .int .i64 qbi, .int .i64 qbh]) ?_ 0 _ rfl; (with_reducible repeat (first | refine qae ?_ _ | refine qag ?_ | refine qaf ?_ _)); exact qbk.out⟩
           have n1_ : Aside0 ((((wc.setCell ⟨qbn, 0, none⟩ (.string qbs)).setCell ⟨qbn, 1, none⟩ (.int .i64 qbq)).setCell ⟨qbn, 2, none⟩ (.int .i64 qbt)).heap[qbl]? = some (.cells #[.string qbs, .int .i64 qbq, .int .i64 qbt] 61 (0, 0))) := ⟨by (with_reducible repeat (first | refine qae ?_ _ | refine qag ?_ | refine qaf ?_ _)); refine blk_far ?_ qcd.out _; (with_reducible repeat (first | refine qae ?_ _ | refine qag ?_ | refine qaf ?_ _)); refine blk_far ?_ qcd.out _; (with_reducible repeat (first | refine qae ?_ _ | refine qag ?_ | refine qaf ?_ _)); refine blk_far ?_ qcd.out _; (with_reducible repeat (first | refine qae ?_ _ | refine qag ?_ | refine qaf ?_ _)); exact qbm.out⟩
           have n2_ : Aside0 (IsS83 w (((wc.setCell ⟨qbn, 0, none⟩ (.string qbs)).setCell ⟨qbn, 1, none⟩ (.int .i64 qbq)).setCell ⟨qbn, 2, none⟩ (.int .i64 qbt)) g186 qcm qcn qco) := ⟨by repeat (first | (with_reducible first | exact qbg.out | apply qax | apply qba | apply qaz | apply qbd | apply qbe | apply qbf | refine qbb ?_ qbo.out _ | refine qbb ?_ qbp.out _) | exact qbg.out)⟩
           have n3_ : Aside0 (Below w.heap.size w (((wc.setCell ⟨qbn, 0, none⟩ (.string qbs)).setCell ⟨qbn, 1, none⟩ (.int .i64 qbq)).setCell ⟨qbn, 2, none⟩ (.int .i64 qbt))) := ⟨by repeat (first | (with_reducible first | exact HB.out | apply qak | apply qai | apply qaj | refine qah ?_ (qbc qbg.out) | refine qah ?_ qbv.out | refine qah ?_ qbz.out) | exact HB.out)⟩
           (try clear qbk)
           (try clear qbm)
           (try clear qbg)
           (try clear HB)
           generalize (((wc.setCell ⟨qbn, 0, none⟩ (.string qbs)).setCell ⟨qbn, 1, none⟩ (.int .i64 qbq)).setCell ⟨qbn, 2, none⟩ (.int .i64 qbt)) = w155 at n0_ n1_ n2_ n3_ ⊢
           have qbk := n0_
           have qbm := n1_
           have qbg := n2_
           have HB := n3_
           clear n0_ n1_ n2_ n3_
           have n0_ := qau (qag qbk.out)
           have n1_ := qau (qag qbm.out)
           have n2_ := qau (qaz qbg.out)
           have n3_ := qau (qaj HB.out)
           clear qbk
           clear qbm
           clear qbg
           clear HB
           have qbk := n0_
           have qbm := n1_
           have qbg := n2_
           have HB := n3_
           clear n0_ n1_ n2_ n3_
           refine start_ (n := 16) (S := fun w' => True) (ds := []) sq37 (by kernel_rfl) rfl rfl trivial (fun hHeld => ?_); refine with_tabW tab34 bits34 (fun HT_ HW_ => ?_)
           generalize w155.drew = w156 at qbk qbm qbg HB hHeld ⊢
           refine pure_ (i := 0) (N := some 147) (v := ?_) (a' := ?_) sq38 rfl rfl (any_of HT_.out (by kernel_rfl)) (fun _ _ _ h => h) (Or.inl ⟨by rfl, ?_⟩) ?_ ?_
           rotate_left
           ·intro w'
            go_simp
            with_reducible rfl
           rotate_left
           ·simp only [Act.put, qaa, qab, qac, i64_w, i32_w]
            rfl
           refine pure_ (i := 1) (N := some 148) (v := ?_) (a' := ?_) sq39 rfl rfl (any_of HT_.out (by kernel_rfl)) (fun _ _ _ h => h) (Or.inl ⟨by rfl, ?_⟩) ?_ ?_
           rotate_left
           ·intro w'
            go_simp
            with_reducible rfl
           rotate_left
           ·simp only [Act.put, qaa, qab, qac, i64_w, i32_w]
            rfl
           refine pure_ (i := 2) (N := some 149) (v := ?_) (a' := ?_) sq40 rfl rfl (any_of HT_.out (by kernel_rfl)) (fun _ _ _ h => h) (Or.inl ⟨by rfl, ?_⟩) ?_ ?_
           rotate_left
           ·intro w'
            go_simp
            with_reducible rfl
           rotate_left
           ·simp only [Act.put, qaa, qab, qac, i64_w, i32_w]
            rfl
           refine pure_ (i := 3) (N := some 150) (v := undef) (a' := ?_) sq41 rfl rfl (any_of HT_.out (by kernel_rfl)) (fun _ _ _ h => h) (Or.inr ⟨by rfl, rfl⟩) ?_ ?_
           rotate_left
           ·simp only [Act.put, qaa, qab, qac, i64_w, i32_w]
            rfl
           refine pure_ (i := 4) (N := some 151) (v := undef) (a' := ?_) sq56 rfl rfl (any_of HT_.out (by kernel_rfl)) (fun _ _ _ h => h) (Or.inr ⟨by rfl, rfl⟩) ?_ ?_
           rotate_left
           ·simp only [Act.put, qaa, qab, qac, i64_w, i32_w]
            rfl
           refine pure_ (i := 5) (N := some 152) (v := undef) (a' := ?_) sq57 rfl rfl (any_of HT_.out (by kernel_rfl)) (fun _ _ _ h => h) (Or.inr ⟨by rfl, rfl⟩) ?_ ?_
           rotate_left
           ·simp only [Act.put, qaa, qab, qac, i64_w, i32_w]
            rfl
           refine pure_ (i := 6) (N := some 153) (v := undef) (a' := ?_) sq44 rfl rfl (any_of HT_.out (by kernel_rfl)) (fun _ _ _ h => h) (Or.inr ⟨by rfl, rfl⟩) ?_ ?_
           rotate_left
           ·simp only [Act.put, qaa, qab, qac, i64_w, i32_w]
            rfl
           refine pure_ (i := 7) (N := some 154) (v := undef) (a' := ?_) sq45 rfl rfl (any_of HT_.out (by kernel_rfl)) (fun _ _ _ h => h) (Or.inr ⟨by rfl, rfl⟩) ?_ ?_
           rotate_left
           ·simp only [Act.put, qaa, qab, qac, i64_w, i32_w]
            rfl
           refine pure_ (i := 8) (N := some 155) (v := ?_) (a' := ?_) sq46 rfl rfl (any_of HT_.out (by kernel_rfl)) (fun _ _ _ h => h) (Or.inl ⟨by rfl, ?_⟩) ?_ ?_
           rotate_left
           ·intro w'
            go_simp
            with_reducible rfl
           rotate_left
           ·simp only [Act.put, qaa, qab, qac, i64_w, i32_w]
            rfl
           refine pure_ (i := 9) (N := some 156) (v := ?_) (a' := ?_) sq47 rfl rfl (any_of HT_.out (by kernel_rfl)) (fun _ _ _ h => h) (Or.inl ⟨by rfl, ?_⟩) ?_ ?_
           rotate_left
           ·intro w'
            go_simp
            with_reducible rfl
           rotate_left
           ·simp only [Act.put, qaa, qab, qac, i64_w, i32_w]
            rfl
           refine pure_ (i := 10) (N := some 157) (v := undef) (a' := ?_) sq48 rfl rfl (any_of HT_.out (by kernel_rfl)) (fun _ _ _ h => h) (Or.inr ⟨by rfl, rfl⟩) ?_ ?_
           rotate_left
           ·simp only [Act.put, qaa, qab, qac, i64_w, i32_w]
            rfl
           refine pure_ (i := 11) (N := some 158) (v := undef) (a' := ?_) sq54 rfl rfl (any_of HT_.out (by kernel_rfl)) (fun _ _ _ h => h) (Or.inr ⟨by rfl, rfl⟩) ?_ ?_
           rotate_left
           ·simp only [Act.put, qaa, qab, qac, i64_w, i32_w]
            rfl
           refine pure_ (i := 12) (N := some 159) (v := undef) (a' := ?_) sq55 rfl rfl (any_of HT_.out (by kernel_rfl)) (fun _ _ _ h => h) (Or.inr ⟨by rfl, rfl⟩) ?_ ?_
           rotate_left
           ·simp only [Act.put, qaa, qab, qac, i64_w, i32_w]
            rfl
           refine pure_ (i := 13) (N := some 160) (v := undef) (a' := ?_) sq51 rfl rfl (any_of HT_.out (by kernel_rfl)) (fun _ _ _ h => h) (Or.inr ⟨by rfl, rfl⟩) ?_ ?_
           rotate_left
           ·simp only [Act.put, qaa, qab, qac, i64_w, i32_w]
            rfl
           refine pure_ (i := 14) (N := some 161) (v := undef) (a' := ?_) sq52 rfl rfl (any_of HT_.out (by kernel_rfl)) (fun _ _ _ h => h) (Or.inr ⟨by rfl, rfl⟩) ?_ ?_
           rotate_left
           ·simp only [Act.put, qaa, qab, qac, i64_w, i32_w]
            rfl
           refine pure_ (i := 15) (N := some 162) (v := ?_) (a' := ?_) sq53 rfl rfl (any_of HT_.out (by kernel_rfl)) (fun _ _ _ h => h) (Or.inl ⟨by rfl, ?_⟩) ?_ ?_
           rotate_left
           ·intro w'
            go_simp
            with_reducible rfl
           rotate_left
           ·simp only [Act.put, qaa, qab, qac, i64_w, i32_w]
            rfl
           refine done_ (done_of HT_.out (by kernel_rfl)) ?_
           try go_wp2
           go_ret
           exact ⟨by first | rfl | (simp [errW_none, errW_some] <;> rfl) | (simp [*, errW_none, errW_some] <;> rfl), by repeat (first | (with_reducible first | exact HB.out | apply qak | apply qai | apply qaj | refine qah ?_ (qbc qbg.out) | refine qah ?_ qbv.out | refine qah ?_ qbz.out) | exact HB.out)⟩
       ·rw [if_neg c15] at H
        exact absurd H (by simp)
      ·focus
       rw [if_neg c14] at H
       have c14b0 : decide (qbr < (l1.length : Int)) = false := decide_eq_false c14
       clear c14
       replace H := Option.bind_eq_some_iff.mp H
       obtain ⟨_, A1570, H⟩ := H
       replace H : ((octet_Reader_NumberN.f 9).bind fun t253 => (if t253 = 0 then ((octet_Reader_IntN.f 9).bind fun t254 => (if t254 = 0 then ((octet_Reader_TextN.f 9).bind fun t255 => (if t255.toList = ([] : List UInt8) then ((octet_Reader_BoolN.f).bind fun t256 => (if t256 = true then (some false) else ((octet_Reader_ErrN.f).bind fun t257 => (if t257 = 1 then ((octet_Reader_AtN.f).bind fun t258 => (if t258 = 0 then ((octet_Reader_EndN.f).bind fun t259 => (some (t259 == 1))) else (some false))) else (some false))))) else (some false))) else (some false))) else (some false))) = some r := H
       have A157 := qau A1570
       clear A1570
       replace H := Option.bind_eq_some_iff.mp H
       obtain ⟨t253, A1580, H⟩ := H
       replace H : (if t253 = 0 then ((octet_Reader_IntN.f 9).bind fun t254 => (if t254 = 0 then ((octet_Reader_TextN.f 9).bind fun t255 => (if t255.toList = ([] : List UInt8) then ((octet_Reader_BoolN.f).bind fun t256 => (if t256 = true then (some false) else ((octet_Reader_ErrN.f).bind fun t257 => (if t257 = 1 then ((octet_Reader_AtN.f).bind fun t258 => (if t258 = 0 then ((octet_Reader_EndN.f).bind fun t259 => (some (t259 == 1))) else (some false))) else (some false))))) else (some false))) else (some false))) else (some false)) = some r := H
       have A158 := qau A1580
       clear A1580
       by_cases c159 : t253 = 0
       ·as_aux_lemma =>
        rw [if_pos c159] at H
        have c159b0 : (t253 == 0) = true := beq_iff_eq.mpr c159
        have c159b1 : (t253 != 0) = false := bne_eq_false_iff_eq.mpr c159
        clear c159
        replace H := Option.bind_eq_some_iff.mp H
        obtain ⟨t254, A1600, H⟩ := H
        replace H : (if t254 = 0 then ((octet_Reader_TextN.f 9).bind fun t255 => (if t255.toList = ([] : List UInt8) then ((octet_Reader_BoolN.f).bind fun t256 => (if t256 = true then (some false) else ((octet_Reader_ErrN.f).bind fun t257 => (if t257 = 1 then ((octet_Reader_AtN.f).bind fun t258 => (if t258 = 0 then ((octet_Reader_EndN.f).bind fun t259 => (some (t259 == 1))) else (some false))) else (some false))))) else (some false))) else (some false)) = some r := H
        have A160 := qau A1600
        clear A1600
        by_cases c161 : t254 = 0
        ·rw [if_pos c161] at H
         have c161b0 : (t254 == 0) = true := beq_iff_eq.mpr c161
         have c161b1 : (t254 != 0) = false := bne_eq_false_iff_eq.mpr c161
         clear c161
         replace H := Option.bind_eq_some_iff.mp H
         obtain ⟨t255, A1620, H⟩ := H
         replace H : (if t255.toList = ([] : List UInt8) then ((octet_Reader_BoolN.f).bind fun t256 => (if t256 = true then (some false) else ((octet_Reader_ErrN.f).bind fun t257 => (if t257 = 1 then ((octet_Reader_AtN.f).bind fun t258 => (if t258 = 0 then ((octet_Reader_EndN.f).bind fun t259 => (some (t259 == 1))) else (some false))) else (some false))))) else (some false)) = some r := H
         have A162 := qau A1620
         clear A1620
         by_cases c163 : t255.toList = ([] : List UInt8)
         ·rw [if_pos c163] at H
          have c163b0 : (t255.toList == ([] : List UInt8)) = true := beq_iff_eq.mpr c163
          have c163b1 : (t255.toList != ([] : List UInt8)) = false := bne_eq_false_iff_eq.mpr c163
          clear c163
          replace H := Option.bind_eq_some_iff.mp H
          obtain ⟨t256, A1640, H⟩ := H
          replace H : (if t256 = true then (some false) else ((octet_Reader_ErrN.f).bind fun t257 => (if t257 = 1 then ((octet_Reader_AtN.f).bind fun t258 => (if t258 = 0 then ((octet_Reader_EndN.f).bind fun t259 => (some (t259 == 1))) else (some false))) else (some false)))) = some r := H
          have A164 := qau A1640
          clear A1640
          by_cases c165 : t256 = true
          ·subst c165
           have H1 : (some false) = some r := by rw [if_pos rfl] at H; exact H
           clear H
           have H := H1
           clear H1
           obtain rfl := Option.some.inj H
           go_wp2_with (first | ((with_reducible refine gate_callee (f := 37) rfl ?_); refine goesL_ (some 164) rfl rfl Try.func37 (by kernel_rfl) rfl #[.pointer none, .int .i64 5] rfl (by (try simp only [qar, qas, qat]); first | done | rfl) ?_; (with_reducible refine (octet_Reader_FailN.calls  5  _ A157.out).mono ?_); rintro e w' ⟨rfl, ⟨nd, rfl⟩⟩; refine ⟨_, rfl, ?_⟩) | ((with_reducible refine gate_callee (f := 30) rfl ?_); refine goesL_ (some 166) rfl rfl Try.func30 (by kernel_rfl) rfl #[.pointer none, .int .u64 9] rfl (by (try simp only [qar, qas, qat]); first | done | rfl) ?_; (with_reducible refine (octet_Reader_NumberN.calls  9 t253 _ A158.out).mono ?_); rintro e w' ⟨rfl, ⟨nd, rfl⟩⟩; refine ⟨_, rfl, ?_⟩) | (go_at_call 32; (with_reducible refine (octet_Reader_IntN.calls  9 t254 _ A160.out).mono ?_); rintro e w' ⟨rfl, ⟨nd, rfl⟩⟩) | (go_at_call 34; (with_reducible refine (octet_Reader_TextN.calls  9 t255 _ A162.out).mono ?_); rintro e w' ⟨rfl, ⟨nd, rfl⟩⟩) | (go_at_call 36; (with_reducible refine (octet_Reader_BoolN.calls  true _ A164.out).mono ?_); rintro e w' ⟨rfl, ⟨nd, rfl⟩⟩))
           go_ret
           exact ⟨by first | rfl | (simp [errW_none, errW_some] <;> rfl) | (simp [*, errW_none, errW_some] <;> rfl), by repeat (first | (with_reducible first | exact HB.out | apply qak | apply qai | apply qaj | refine qah ?_ (qbc qbg.out) | refine qah ?_ qbv.out) | exact HB.out)⟩
          ·replace c165 := Bool.eq_false_iff.mpr c165
           subst c165
           have H1 : ((octet_Reader_ErrN.f).bind fun t257 => (if t257 = 1 then ((octet_Reader_AtN.f).bind fun t258 => (if t258 = 0 then ((octet_Reader_EndN.f).bind fun t259 => (some (t259 == 1))) else (some false))) else (some false))) = some r := by rw [if_neg (show ¬ (false = true) by decide)] at H; exact H
           clear H
           have H := H1
           clear H1
           replace H := Option.bind_eq_some_iff.mp H
           obtain ⟨t257, A1660, H⟩ := H
           replace H : (if t257 = 1 then ((octet_Reader_AtN.f).bind fun t258 => (if t258 = 0 then ((octet_Reader_EndN.f).bind fun t259 => (some (t259 == 1))) else (some false))) else (some false)) = some r := H
           have A166 := qau A1660
           clear A1660
           by_cases c167 : t257 = 1
           ·rw [if_pos c167] at H
            have c167b0 : (t257 == 1) = true := beq_iff_eq.mpr c167
            have c167b1 : (t257 != 1) = false := bne_eq_false_iff_eq.mpr c167
            clear c167
            replace H := Option.bind_eq_some_iff.mp H
            obtain ⟨t258, A1680, H⟩ := H
            replace H : (if t258 = 0 then ((octet_Reader_EndN.f).bind fun t259 => (some (t259 == 1))) else (some false)) = some r := H
            have A168 := qau A1680
            clear A1680
            by_cases c169 : t258 = 0
            ·rw [if_pos c169] at H
             have c169b0 : (t258 == 0) = true := beq_iff_eq.mpr c169
             have c169b1 : (t258 != 0) = false := bne_eq_false_iff_eq.mpr c169
             clear c169
             replace H := Option.bind_eq_some_iff.mp H
             obtain ⟨t259, A1700, H⟩ := H
             replace H : (some (t259 == 1)) = some r := H
             have A170 := qau A1700
             clear A1700
             obtain rfl := Option.some.inj H
             go_wp2_with (first | ((with_reducible refine gate_callee (f := 37) rfl ?_); refine goesL_ (some 164) rfl rfl Try.func37 (by kernel_rfl) rfl #[.pointer none, .int .i64 5] rfl (by (try simp only [qar, qas, qat]); first | done | rfl) ?_; (with_reducible refine (octet_Reader_FailN.calls  5  _ A157.out).mono ?_); rintro e w' ⟨rfl, ⟨nd, rfl⟩⟩; refine ⟨_, rfl, ?_⟩) | ((with_reducible refine gate_callee (f := 30) rfl ?_); refine goesL_ (some 166) rfl rfl Try.func30 (by kernel_rfl) rfl #[.pointer none, .int .u64 9] rfl (by (try simp only [qar, qas, qat]); first | done | rfl) ?_; (with_reducible refine (octet_Reader_NumberN.calls  9 t253 _ A158.out).mono ?_); rintro e w' ⟨rfl, ⟨nd, rfl⟩⟩; refine ⟨_, rfl, ?_⟩) | (go_at_call 32; (with_reducible refine (octet_Reader_IntN.calls  9 t254 _ A160.out).mono ?_); rintro e w' ⟨rfl, ⟨nd, rfl⟩⟩) | (go_at_call 34; (with_reducible refine (octet_Reader_TextN.calls  9 t255 _ A162.out).mono ?_); rintro e w' ⟨rfl, ⟨nd, rfl⟩⟩) | (go_at_call 36; (with_reducible refine (octet_Reader_BoolN.calls  false _ A164.out).mono ?_); rintro e w' ⟨rfl, ⟨nd, rfl⟩⟩) | (go_at_call 40; (with_reducible refine (octet_Reader_ErrN.calls  t257 _ A166.out).mono ?_); rintro e w' ⟨rfl, ⟨nd, rfl⟩⟩) | (go_at_call 41; (with_reducible refine (octet_Reader_AtN.calls  t258 _ A168.out).mono ?_); rintro e w' ⟨rfl, ⟨nd, rfl⟩⟩) | (go_at_call 39; (with_reducible refine (octet_Reader_EndN.calls  t259 _ A170.out).mono ?_); rintro e w' ⟨rfl, ⟨nd, rfl⟩⟩))
             go_ret
             exact ⟨by first | rfl | (simp [errW_none, errW_some] <;> rfl) | (simp [*, errW_none, errW_some] <;> rfl), by repeat (first | (with_reducible first | exact HB.out | apply qak | apply qai | apply qaj | refine qah ?_ (qbc qbg.out) | refine qah ?_ qbv.out) | exact HB.out)⟩
            ·rw [if_neg c169] at H
             have c169b0 : (t258 == 0) = false := beq_eq_false_iff_ne.mpr c169
             have c169b1 : (t258 != 0) = true := bne_iff_ne.mpr c169
             obtain rfl := Option.some.inj H
             go_wp2_with (first | ((with_reducible refine gate_callee (f := 37) rfl ?_); refine goesL_ (some 164) rfl rfl Try.func37 (by kernel_rfl) rfl #[.pointer none, .int .i64 5] rfl (by (try simp only [qar, qas, qat]); first | done | rfl) ?_; (with_reducible refine (octet_Reader_FailN.calls  5  _ A157.out).mono ?_); rintro e w' ⟨rfl, ⟨nd, rfl⟩⟩; refine ⟨_, rfl, ?_⟩) | ((with_reducible refine gate_callee (f := 30) rfl ?_); refine goesL_ (some 166) rfl rfl Try.func30 (by kernel_rfl) rfl #[.pointer none, .int .u64 9] rfl (by (try simp only [qar, qas, qat]); first | done | rfl) ?_; (with_reducible refine (octet_Reader_NumberN.calls  9 t253 _ A158.out).mono ?_); rintro e w' ⟨rfl, ⟨nd, rfl⟩⟩; refine ⟨_, rfl, ?_⟩) | (go_at_call 32; (with_reducible refine (octet_Reader_IntN.calls  9 t254 _ A160.out).mono ?_); rintro e w' ⟨rfl, ⟨nd, rfl⟩⟩) | (go_at_call 34; (with_reducible refine (octet_Reader_TextN.calls  9 t255 _ A162.out).mono ?_); rintro e w' ⟨rfl, ⟨nd, rfl⟩⟩) | (go_at_call 36; (with_reducible refine (octet_Reader_BoolN.calls  false _ A164.out).mono ?_); rintro e w' ⟨rfl, ⟨nd, rfl⟩⟩) | (go_at_call 40; (with_reducible refine (octet_Reader_ErrN.calls  t257 _ A166.out).mono ?_); rintro e w' ⟨rfl, ⟨nd, rfl⟩⟩) | (go_at_call 41; (with_reducible refine (octet_Reader_AtN.calls  t258 _ A168.out).mono ?_); rintro e w' ⟨rfl, ⟨nd, rfl⟩⟩))
             go_ret
             exact ⟨by first | rfl | (simp [errW_none, errW_some] <;> rfl) | (simp [*, errW_none, errW_some] <;> rfl), by repeat (first | (with_reducible first | exact HB.out | apply qak | apply qai | apply qaj | refine qah ?_ (qbc qbg.out) | refine qah ?_ qbv.out) | exact HB.out)⟩
           ·rw [if_neg c167] at H
            have c167b0 : (t257 == 1) = false := beq_eq_false_iff_ne.mpr c167
            have c167b1 : (t257 != 1) = true := bne_iff_ne.mpr c167
            obtain rfl := Option.some.inj H
            go_wp2_with (first | ((with_reducible refine gate_callee (f := 37) rfl ?_); refine goesL_ (some 164) rfl rfl Try.func37 (by kernel_rfl) rfl #[.pointer none, .int .i64 5] rfl (by (try simp only [qar, qas, qat]); first | done | rfl) ?_; (with_reducible refine (octet_Reader_FailN.calls  5  _ A157.out).mono ?_); rintro e w' ⟨rfl, ⟨nd, rfl⟩⟩; refine ⟨_, rfl, ?_⟩) | ((with_reducible refine gate_callee (f := 30) rfl ?_); refine goesL_ (some 166) rfl rfl Try.func30 (by kernel_rfl) rfl #[.pointer none, .int .u64 9] rfl (by (try simp only [qar, qas, qat]); first | done | rfl) ?_; (with_reducible refine (octet_Reader_NumberN.calls  9 t253 _ A158.out).mono ?_); rintro e w' ⟨rfl, ⟨nd, rfl⟩⟩; refine ⟨_, rfl, ?_⟩) | (go_at_call 32; (with_reducible refine (octet_Reader_IntN.calls  9 t254 _ A160.out).mono ?_); rintro e w' ⟨rfl, ⟨nd, rfl⟩⟩) | (go_at_call 34; (with_reducible refine (octet_Reader_TextN.calls  9 t255 _ A162.out).mono ?_); rintro e w' ⟨rfl, ⟨nd, rfl⟩⟩) | (go_at_call 36; (with_reducible refine (octet_Reader_BoolN.calls  false _ A164.out).mono ?_); rintro e w' ⟨rfl, ⟨nd, rfl⟩⟩) | (go_at_call 40; (with_reducible refine (octet_Reader_ErrN.calls  t257 _ A166.out).mono ?_); rintro e w' ⟨rfl, ⟨nd, rfl⟩⟩))
            go_ret
            exact ⟨by first | rfl | (simp [errW_none, errW_some] <;> rfl) | (simp [*, errW_none, errW_some] <;> rfl), by repeat (first | (with_reducible first | exact HB.out | apply qak | apply qai | apply qaj | refine qah ?_ (qbc qbg.out) | refine qah ?_ qbv.out) | exact HB.out)⟩
         ·rw [if_neg c163] at H
          have c163b0 : (t255.toList == ([] : List UInt8)) = false := beq_eq_false_iff_ne.mpr c163
          have c163b1 : (t255.toList != ([] : List UInt8)) = true := bne_iff_ne.mpr c163
          obtain rfl := Option.some.inj H
          go_wp2_with (first | ((with_reducible refine gate_callee (f := 37) rfl ?_); refine goesL_ (some 164) rfl rfl Try.func37 (by kernel_rfl) rfl #[.pointer none, .int .i64 5] rfl (by (try simp only [qar, qas, qat]); first | done | rfl) ?_; (with_reducible refine (octet_Reader_FailN.calls  5  _ A157.out).mono ?_); rintro e w' ⟨rfl, ⟨nd, rfl⟩⟩; refine ⟨_, rfl, ?_⟩) | ((with_reducible refine gate_callee (f := 30) rfl ?_); refine goesL_ (some 166) rfl rfl Try.func30 (by kernel_rfl) rfl #[.pointer none, .int .u64 9] rfl (by (try simp only [qar, qas, qat]); first | done | rfl) ?_; (with_reducible refine (octet_Reader_NumberN.calls  9 t253 _ A158.out).mono ?_); rintro e w' ⟨rfl, ⟨nd, rfl⟩⟩; refine ⟨_, rfl, ?_⟩) | (go_at_call 32; (with_reducible refine (octet_Reader_IntN.calls  9 t254 _ A160.out).mono ?_); rintro e w' ⟨rfl, ⟨nd, rfl⟩⟩) | (go_at_call 34; (with_reducible refine (octet_Reader_TextN.calls  9 t255 _ A162.out).mono ?_); rintro e w' ⟨rfl, ⟨nd, rfl⟩⟩))
          go_ret
          exact ⟨by first | rfl | (simp [errW_none, errW_some] <;> rfl) | (simp [*, errW_none, errW_some] <;> rfl), by repeat (first | (with_reducible first | exact HB.out | apply qak | apply qai | apply qaj | refine qah ?_ (qbc qbg.out) | refine qah ?_ qbv.out) | exact HB.out)⟩
        ·rw [if_neg c161] at H
         have c161b0 : (t254 == 0) = false := beq_eq_false_iff_ne.mpr c161
         have c161b1 : (t254 != 0) = true := bne_iff_ne.mpr c161
         obtain rfl := Option.some.inj H
         go_wp2_with (first | ((with_reducible refine gate_callee (f := 37) rfl ?_); refine goesL_ (some 164) rfl rfl Try.func37 (by kernel_rfl) rfl #[.pointer none, .int .i64 5] rfl (by (try simp only [qar, qas, qat]); first | done | rfl) ?_; (with_reducible refine (octet_Reader_FailN.calls  5  _ A157.out).mono ?_); rintro e w' ⟨rfl, ⟨nd, rfl⟩⟩; refine ⟨_, rfl, ?_⟩) | ((with_reducible refine gate_callee (f := 30) rfl ?_); refine goesL_ (some 166) rfl rfl Try.func30 (by kernel_rfl) rfl #[.pointer none, .int .u64 9] rfl (by (try simp only [qar, qas, qat]); first | done | rfl) ?_; (with_reducible refine (octet_Reader_NumberN.calls  9 t253 _ A158.out).mono ?_); rintro e w' ⟨rfl, ⟨nd, rfl⟩⟩; refine ⟨_, rfl, ?_⟩) | (go_at_call 32; (with_reducible refine (octet_Reader_IntN.calls  9 t254 _ A160.out).mono ?_); rintro e w' ⟨rfl, ⟨nd, rfl⟩⟩))
         go_ret
         exact ⟨by first | rfl | (simp [errW_none, errW_some] <;> rfl) | (simp [*, errW_none, errW_some] <;> rfl), by repeat (first | (with_reducible first | exact HB.out | apply qak | apply qai | apply qaj | refine qah ?_ (qbc qbg.out) | refine qah ?_ qbv.out) | exact HB.out)⟩
       ·rw [if_neg c159] at H
        have c159b0 : (t253 == 0) = false := beq_eq_false_iff_ne.mpr c159
        have c159b1 : (t253 != 0) = true := bne_iff_ne.mpr c159
        obtain rfl := Option.some.inj H
        go_wp2_with (first | ((with_reducible refine gate_callee (f := 37) rfl ?_); refine goesL_ (some 164) rfl rfl Try.func37 (by kernel_rfl) rfl #[.pointer none, .int .i64 5] rfl (by (try simp only [qar, qas, qat]); first | done | rfl) ?_; (with_reducible refine (octet_Reader_FailN.calls  5  _ A157.out).mono ?_); rintro e w' ⟨rfl, ⟨nd, rfl⟩⟩; refine ⟨_, rfl, ?_⟩) | ((with_reducible refine gate_callee (f := 30) rfl ?_); refine goesL_ (some 166) rfl rfl Try.func30 (by kernel_rfl) rfl #[.pointer none, .int .u64 9] rfl (by (try simp only [qar, qas, qat]); first | done | rfl) ?_; (with_reducible refine (octet_Reader_NumberN.calls  9 t253 _ A158.out).mono ?_); rintro e w' ⟨rfl, ⟨nd, rfl⟩⟩; refine ⟨_, rfl, ?_⟩))
        go_ret
        exact ⟨by first | rfl | (simp [errW_none, errW_some] <;> rfl) | (simp [*, errW_none, errW_some] <;> rfl), by repeat (first | (with_reducible first | exact HB.out | apply qak | apply qai | apply qaj | refine qah ?_ (qbc qbg.out) | refine qah ?_ qbv.out) | exact HB.out)⟩

end Go.Proofs.Ytmeggejeiggicaa.R
