/- Written by a program of this session (wip/patch_print.py over the kit's print): functions of the given program as plain Lean functions, and that each call does what its function says, under no further conditions. -/
import Derived.Test.YtdeakccaecphlaaDoorProg
import Derived.Below
import Derived.Deep.Draws
import Derived.Deep.AppendLies
import Derived.Maps.AppendAt
import Derived.OwnWalk
import Derived.Laws.BytesArg
import Derived.Laws.MakeOwn
import Derived.Laws.OwnMore
import Derived.Deep.OwnRows
import Derived.Tactics
import Derived.Lib.ConvBytes
import Derived.Laws.Slices
import Derived.WalkKit
import Derived.KernelRfl
import Derived.RowKit3
import Derived.Deep.LoopGhost
import Derived.Deep.QuietTactic
import Derived.BigQuiet
import Derived.WideLaws
import Derived.Deep.DeepCutAuto
import Derived.Deep.CutBlock
import Derived.Deep.RegionHeld3
import Derived.Laws.Rows
import Derived.Lib.AppendStr
import Derived.ArgAppend
import Derived.Laws.IdiomCopy
import Derived.OrdersHeld
import Derived.Laws.BitsLemmas
import Derived.RowKit
import Derived.Test.YtdeakccaecphlaaDoorWWords
import Derived.Test.YtdeakccaecphlaaDoorWLast
import Derived.Test.YtdeakccaecphlaaDoorWTab
import Derived.Test.YtdeakccaecphlaaDoorWFour
import Derived.Test.YtdeakccaecphlaaDoorWQPut
import Derived.Test.YtdeakccaecphlaaDoorWApart
import Derived.Test.YtdeakccaecphlaaDoorWArr
import Derived.Test.YtdeakccaecphlaaDoorWZeros
import Derived.Test.YtdeakccaecphlaaDoorWFoot
import Derived.Test.YtdeakccaecphlaaDoorWKept
import Derived.Test.YtdeakccaecphlaaDoorWShare
import Derived.Test.YtdeakccaecphlaaDoorWN
import Derived.Test.YtdeakccaecphlaaDoorWFootNe
import Derived.Test.YtdeakccaecphlaaDoorWAt
import Derived.Test.YtdeakccaecphlaaDoorWEqStruct
import Derived.Test.YtdeakccaecphlaaDoorWRepsOne
import Derived.Test.YtdeakccaecphlaaDoorWInv
import Derived.Test.YtdeakccaecphlaaDoorWInvWords
import Derived.Test.YtdeakccaecphlaaDoorWGuard
import Derived.Test.YtdeakccaecphlaaDoorWNEv
import Derived.Test.YtdeakccaecphlaaDoorWMore
namespace Go.Proofs.YtdeakccaecphlaaDoor.Q
open Go.RowKit Go.Proofs.YtdeakccaecphlaaDoorW.PrintWords Go.Proofs.YtdeakccaecphlaaDoorW.PrintLast Go.Proofs.YtdeakccaecphlaaDoorW.PrintMore
attribute [local go_sem] max2_int min2_int max_two min_two max_three min_three max_four min_four   -- for this text's walks alone
set_option linter.unusedVariables false
set_option linter.unusedSimpArgs false



def errW : Option Int → Value
 | none => .nilIface
 | some c => .iface 0 (.int .i64 c)
theorem errW_none : errW none = .nilIface := rfl
theorem errW_some (c : Int) : errW (some c) = .iface 0 (.int .i64 c) := rfl

theorem xor_ones_u8 : (if IntKind.u8.signed = true then (-1 : Int) else IntKind.u8.max) = 255 := rfl
theorem xor_ones_u16 : (if IntKind.u16.signed = true then (-1 : Int) else IntKind.u16.max) = 65535 := rfl
theorem xor_ones_u32 : (if IntKind.u32.signed = true then (-1 : Int) else IntKind.u32.max) = 4294967295 := rfl
theorem xor_ones_u64 : (if IntKind.u64.signed = true then (-1 : Int) else IntKind.u64.max) = 18446744073709551615 := rfl
theorem set_twice (w : World) (p : Addr) (a b : Value) : (w.setCell p a).setCell p b = w.setCell p b := by
 unfold World.setCell
 congr 1
 apply Array.ext_getElem?
 intro i
 simp only [Array.getElem?_modify]
 by_cases h : p.block = i
 ·simp only [h, if_true]
  cases w.heap[i]? with
  | none => rfl
  | some o =>
   simp only [Option.map_some]
   cases o <;> simp
   split <;> simp
 ·simp [h]
theorem cell_twice (w : World) (p q : Addr) (a b : Value) : ((w.setCell p a).setCell p b).cell? q = (w.setCell p b).cell? q := by rw [set_twice]
theorem frozen_twice (w : World) (p q : Addr) (a b : Value) : ((w.setCell p a).setCell p b).frozen? q = (w.setCell p b).frozen? q := by rw [set_twice]
theorem info5 : (Tryd.prog.info? 5).map (fun i => (i.zero, i.size, i.bytes)) = some (some (.int .u8 0), 1, 1) := by kernel_rfl
theorem info9 : (Tryd.prog.info? 9).map (fun i => (i.zero, i.size, i.bytes)) = some (some (.string ⟨#[]⟩), 1, 16) := by kernel_rfl
theorem info73 : (Tryd.prog.info? 73).map (fun i => (i.zero, i.size, i.bytes)) = some (some (.int .u32 0), 1, 4) := by kernel_rfl
-- the values' own types

end Go.Proofs.YtdeakccaecphlaaDoor.Q
