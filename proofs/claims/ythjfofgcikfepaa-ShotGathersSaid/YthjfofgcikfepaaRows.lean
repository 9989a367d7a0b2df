/-
  No cell of these rows narrows 'for every input' (looked for: loops, veiled, ifaces, maps, wideKeys, modest, calm, conditions, laid).
  DERIVED. THE GIVEN ROWS OF THIS SEAT. 8 by the template 'for every input the law returns true; each argument reads behind the call as it read before'; 0 by the template 'total and deterministic' (their statements: YthjfofgcikfepaaTotals.lean).
  GIVEN WITH THE SEED: the statements are not yours to turn. If you find one false, say at which input.
  Laid BY PROGRAM, IN A SANDBOX (cutbox-rows.mjs): the forced cells as the released guide's own fill.sh prints them over the translation 118cd140a441044c… (all of the seat's roots in one cut). By AI agents, Wed Nov 11 2026. No macro, syntax, notation, axiom, sorry.
-/
import Derived.Test.YthjfofgcikfepaaChecked
import GoSem.Claim
import GoSem.ClaimJoined
import GoSem.ClaimMapViews
import Derived.JoinedTies
import Derived.KernelRfl
namespace Go.Proofs.Ythjfofgcikfepaa
/- THE CELL 'sum', in the pinned program and in every row, IS THE sha256 OF THE DUMP (.gsa) THAT YthjfofgcikfepaaProg.lean LOADS. Nothing in Lean hashes anything: it is a label: what it is worth is what the hold of that sum in a sandbox is worth. -/
noncomputable def Try.pinned : Pinned := { name := "ythjfofgcikfepaa", sum := "118cd140a441044cbc5eed3b6e06c9e2a8c986d58788a15847df725ee215525e", checked := Try.checked }
namespace Rows
def none {H : Type} : Left H := { results := [], args := [] }

/-- 'stowagelaw07.ShotBytes': WHATEVER THE INPUT: true; the input reads as it did. -/
def shotBytesSpec : ChangeSpec := { name := "shotBytes", fn := fun _ => fun
  | [d1, d2] => { results := [.lit (.bool true)], args := [d1, d2] }
  | _ => none }
def shotBytesRow : OpenClaim := { program := "ythjfofgcikfepaa", sum := "118cd140a441044cbc5eed3b6e06c9e2a8c986d58788a15847df725ee215525e", func := "stowage/stowagelaw07.ShotBytes", spec := "shotBytes", inPlace := ["maps.clone"], recurses := true, apart := false }
def ShotBytesSaid : Prop := shotBytesRow.holds Try.pinned (OpenSpec.ofChange shotBytesSpec)

/-- ITS FALSE NEIGHBOUR: 'it returns false'. Refute it at one input. -/
def shotBytesWrong : ChangeSpec := { name := "shotBytes", fn := fun _ => fun
  | [d1, d2] => { results := [.lit (.bool false)], args := [d1, d2] }
  | _ => none }
def ShotBytesWrongFalsely : Prop := shotBytesRow.holds Try.pinned (OpenSpec.ofChange shotBytesWrong)

/-- 'stowagelaw07.ShotBack': WHATEVER THE INPUT: true; the input reads as it did. -/
def shotBackSpec : ChangeSpec := { name := "shotBack", fn := fun _ => fun
  | [d1, d2] => { results := [.lit (.bool true)], args := [d1, d2] }
  | _ => none }
def shotBackRow : OpenClaim := { program := "ythjfofgcikfepaa", sum := "118cd140a441044cbc5eed3b6e06c9e2a8c986d58788a15847df725ee215525e", func := "stowage/stowagelaw07.ShotBack", spec := "shotBack", inPlace := ["maps.clone"], apart := false }
def ShotBackSaid : Prop := shotBackRow.holds Try.pinned (OpenSpec.ofChange shotBackSpec)

/-- ITS FALSE NEIGHBOUR: 'it returns false'. Refute it at one input. -/
def shotBackWrong : ChangeSpec := { name := "shotBack", fn := fun _ => fun
  | [d1, d2] => { results := [.lit (.bool false)], args := [d1, d2] }
  | _ => none }
def ShotBackWrongFalsely : Prop := shotBackRow.holds Try.pinned (OpenSpec.ofChange shotBackWrong)

/-- 'stowagelaw07.ShotFull': WHATEVER THE INPUT: true; the input reads as it did. -/
def shotFullSpec : ChangeSpec := { name := "shotFull", fn := fun _ => fun
  | [d1, d2, d3] => { results := [.lit (.bool true)], args := [d1, d2, d3] }
  | _ => none }
def shotFullRow : OpenClaim := { program := "ythjfofgcikfepaa", sum := "118cd140a441044cbc5eed3b6e06c9e2a8c986d58788a15847df725ee215525e", func := "stowage/stowagelaw07.ShotFull", spec := "shotFull", inPlace := ["maps.clone"], apart := false }
def ShotFullSaid : Prop := shotFullRow.holds Try.pinned (OpenSpec.ofChange shotFullSpec)

/-- ITS FALSE NEIGHBOUR: 'it returns false'. Refute it at one input. -/
def shotFullWrong : ChangeSpec := { name := "shotFull", fn := fun _ => fun
  | [d1, d2, d3] => { results := [.lit (.bool false)], args := [d1, d2, d3] }
  | _ => none }
def ShotFullWrongFalsely : Prop := shotFullRow.holds Try.pinned (OpenSpec.ofChange shotFullWrong)

/-- 'stowagelaw07.ShotFalls': WHATEVER THE INPUT: true; the input reads as it did. -/
def shotFallsSpec : ChangeSpec := { name := "shotFalls", fn := fun _ => fun
  | [d1, d2] => { results := [.lit (.bool true)], args := [d1, d2] }
  | _ => none }
def shotFallsRow : OpenClaim := { program := "ythjfofgcikfepaa", sum := "118cd140a441044cbc5eed3b6e06c9e2a8c986d58788a15847df725ee215525e", func := "stowage/stowagelaw07.ShotFalls", spec := "shotFalls", inPlace := ["maps.clone"], apart := false }
def ShotFallsSaid : Prop := shotFallsRow.holds Try.pinned (OpenSpec.ofChange shotFallsSpec)

/-- ITS FALSE NEIGHBOUR: 'it returns false'. Refute it at one input. -/
def shotFallsWrong : ChangeSpec := { name := "shotFalls", fn := fun _ => fun
  | [d1, d2] => { results := [.lit (.bool false)], args := [d1, d2] }
  | _ => none }
def ShotFallsWrongFalsely : Prop := shotFallsRow.holds Try.pinned (OpenSpec.ofChange shotFallsWrong)

/-- 'stowagelaw07.ShotChunks': WHATEVER THE INPUT: true; the input reads as it did. -/
def shotChunksSpec : ChangeSpec := { name := "shotChunks", fn := fun _ => fun
  | [d1, d2] => { results := [.lit (.bool true)], args := [d1, d2] }
  | _ => none }
def shotChunksRow : OpenClaim := { program := "ythjfofgcikfepaa", sum := "118cd140a441044cbc5eed3b6e06c9e2a8c986d58788a15847df725ee215525e", func := "stowage/stowagelaw07.ShotChunks", spec := "shotChunks", inPlace := ["maps.clone"], recurses := true, apart := false }
def ShotChunksSaid : Prop := shotChunksRow.holds Try.pinned (OpenSpec.ofChange shotChunksSpec)

/-- ITS FALSE NEIGHBOUR: 'it returns false'. Refute it at one input. -/
def shotChunksWrong : ChangeSpec := { name := "shotChunks", fn := fun _ => fun
  | [d1, d2] => { results := [.lit (.bool false)], args := [d1, d2] }
  | _ => none }
def ShotChunksWrongFalsely : Prop := shotChunksRow.holds Try.pinned (OpenSpec.ofChange shotChunksWrong)

/-- 'stowagelaw07.ShotGathers': WHATEVER THE INPUT: true; the input reads as it did. -/
def shotGathersSpec : ChangeSpec := { name := "shotGathers", fn := fun _ => fun
  | [d] => { results := [.lit (.bool true)], args := [d] }
  | _ => none }
def shotGathersRow : OpenClaim := { program := "ythjfofgcikfepaa", sum := "118cd140a441044cbc5eed3b6e06c9e2a8c986d58788a15847df725ee215525e", func := "stowage/stowagelaw07.ShotGathers", spec := "shotGathers", inPlace := ["maps.clone"], apart := false }
def ShotGathersSaid : Prop := shotGathersRow.holds Try.pinned (OpenSpec.ofChange shotGathersSpec)

/-- ITS FALSE NEIGHBOUR: 'it returns false'. Refute it at one input. -/
def shotGathersWrong : ChangeSpec := { name := "shotGathers", fn := fun _ => fun
  | [d] => { results := [.lit (.bool false)], args := [d] }
  | _ => none }
def ShotGathersWrongFalsely : Prop := shotGathersRow.holds Try.pinned (OpenSpec.ofChange shotGathersWrong)

/-- 'stowagelaw07.ShotWhole': WHATEVER THE INPUT: true; the input reads as it did. -/
def shotWholeSpec : ChangeSpec := { name := "shotWhole", fn := fun _ => fun
  | [d1, d2, d3] => { results := [.lit (.bool true)], args := [d1, d2, d3] }
  | _ => none }
def shotWholeRow : OpenClaim := { program := "ythjfofgcikfepaa", sum := "118cd140a441044cbc5eed3b6e06c9e2a8c986d58788a15847df725ee215525e", func := "stowage/stowagelaw07.ShotWhole", spec := "shotWhole", inPlace := ["maps.clone"], apart := false }
def ShotWholeSaid : Prop := shotWholeRow.holds Try.pinned (OpenSpec.ofChange shotWholeSpec)

/-- ITS FALSE NEIGHBOUR: 'it returns false'. Refute it at one input. -/
def shotWholeWrong : ChangeSpec := { name := "shotWhole", fn := fun _ => fun
  | [d1, d2, d3] => { results := [.lit (.bool false)], args := [d1, d2, d3] }
  | _ => none }
def ShotWholeWrongFalsely : Prop := shotWholeRow.holds Try.pinned (OpenSpec.ofChange shotWholeWrong)

/-- 'stowagelaw07.ShotLoads': WHATEVER THE INPUT: true; the input reads as it did. -/
def shotLoadsSpec : ChangeSpec := { name := "shotLoads", fn := fun _ => fun
  | [d1, d2, d3] => { results := [.lit (.bool true)], args := [d1, d2, d3] }
  | _ => none }
def shotLoadsRow : OpenClaim := { program := "ythjfofgcikfepaa", sum := "118cd140a441044cbc5eed3b6e06c9e2a8c986d58788a15847df725ee215525e", func := "stowage/stowagelaw07.ShotLoads", spec := "shotLoads", inPlace := ["maps.clone"], unfollowed := true, recurses := true, apart := false }
def ShotLoadsSaid : Prop := shotLoadsRow.holds Try.pinned (OpenSpec.ofChange shotLoadsSpec)

/-- ITS FALSE NEIGHBOUR: 'it returns false'. Refute it at one input. -/
def shotLoadsWrong : ChangeSpec := { name := "shotLoads", fn := fun _ => fun
  | [d1, d2, d3] => { results := [.lit (.bool false)], args := [d1, d2, d3] }
  | _ => none }
def ShotLoadsWrongFalsely : Prop := shotLoadsRow.holds Try.pinned (OpenSpec.ofChange shotLoadsWrong)

/- THE SECOND FORM. 'bulk': how many values and letters a reading holds, each counted each time it is reached (what is shared counts as often as it is met; a slice's spare places count too). A statement '..UptoSaid' is the law's where the arguments, and the package variables that the reading takes, are together of bulk at most 1048576: NARROWER than '..Said'. Prove '..Said' where nothing that the law and all that it calls make is longer than what came in: it says more and counts as full. Else prove '..UptoSaid'. A law counts once. -/
mutual
def uptoBulk {H : Type} : DataW H → Nat
  | .lit (.string bytes) => bytes.length + 1
  | .lit _ => 1
  | .nil => 1
  | .ptr d => uptoBulk d + 1
  | .slice elems spare => uptoBulkAll elems + uptoBulkAll spare + 1
  | .agg parts => uptoBulkAll parts + 1
  | .iface _ d => uptoBulk d + 1
  | .map entries => uptoBulkEntries entries + 1
  | .held _ => 1
def uptoBulkAll {H : Type} : List (DataW H) → Nat
  | [] => 0
  | d :: r => uptoBulk d + uptoBulkAll r
def uptoBulkEntries {H : Type} : List (Lit × DataW H) → Nat
  | [] => 0
  | x :: r => uptoBulkEntry x + uptoBulkEntries r
def uptoBulkEntry {H : Type} : Lit × DataW H → Nat
  | (.string bytes, d) => bytes.length + uptoBulk d + 1
  | (_, d) => uptoBulk d + 1
 end
def uptoSmall : (H : Type) → List (DataW H) → Bool := fun _ ds => decide (uptoBulkAll ds ≤ 1048576)
def OpenSpec.upto (s : _root_.Go.ChangeSpec) : _root_.Go.OpenSpec := { _root_.Go.OpenSpec.ofChange s with cond := some uptoSmall }

/-- 'stowagelaw07.ShotBytes', WHERE WHAT IT READS IS OF BULK AT MOST 1048576: true; the input reads as it did. -/
def shotBytesUptoRow : OpenClaim := { program := "ythjfofgcikfepaa", sum := "118cd140a441044cbc5eed3b6e06c9e2a8c986d58788a15847df725ee215525e", func := "stowage/stowagelaw07.ShotBytes", spec := "shotBytes", inPlace := ["maps.clone"], recurses := true, apart := false, narrowed := true }
def ShotBytesUptoSaid : Prop := shotBytesUptoRow.holds Try.pinned (OpenSpec.upto shotBytesSpec)

/-- 'stowagelaw07.ShotBack', WHERE WHAT IT READS IS OF BULK AT MOST 1048576: true; the input reads as it did. -/
def shotBackUptoRow : OpenClaim := { program := "ythjfofgcikfepaa", sum := "118cd140a441044cbc5eed3b6e06c9e2a8c986d58788a15847df725ee215525e", func := "stowage/stowagelaw07.ShotBack", spec := "shotBack", inPlace := ["maps.clone"], apart := false, narrowed := true }
def ShotBackUptoSaid : Prop := shotBackUptoRow.holds Try.pinned (OpenSpec.upto shotBackSpec)

/-- 'stowagelaw07.ShotFull', WHERE WHAT IT READS IS OF BULK AT MOST 1048576: true; the input reads as it did. -/
def shotFullUptoRow : OpenClaim := { program := "ythjfofgcikfepaa", sum := "118cd140a441044cbc5eed3b6e06c9e2a8c986d58788a15847df725ee215525e", func := "stowage/stowagelaw07.ShotFull", spec := "shotFull", inPlace := ["maps.clone"], apart := false, narrowed := true }
def ShotFullUptoSaid : Prop := shotFullUptoRow.holds Try.pinned (OpenSpec.upto shotFullSpec)

/-- 'stowagelaw07.ShotFalls', WHERE WHAT IT READS IS OF BULK AT MOST 1048576: true; the input reads as it did. -/
def shotFallsUptoRow : OpenClaim := { program := "ythjfofgcikfepaa", sum := "118cd140a441044cbc5eed3b6e06c9e2a8c986d58788a15847df725ee215525e", func := "stowage/stowagelaw07.ShotFalls", spec := "shotFalls", inPlace := ["maps.clone"], apart := false, narrowed := true }
def ShotFallsUptoSaid : Prop := shotFallsUptoRow.holds Try.pinned (OpenSpec.upto shotFallsSpec)

/-- 'stowagelaw07.ShotChunks', WHERE WHAT IT READS IS OF BULK AT MOST 1048576: true; the input reads as it did. -/
def shotChunksUptoRow : OpenClaim := { program := "ythjfofgcikfepaa", sum := "118cd140a441044cbc5eed3b6e06c9e2a8c986d58788a15847df725ee215525e", func := "stowage/stowagelaw07.ShotChunks", spec := "shotChunks", inPlace := ["maps.clone"], recurses := true, apart := false, narrowed := true }
def ShotChunksUptoSaid : Prop := shotChunksUptoRow.holds Try.pinned (OpenSpec.upto shotChunksSpec)

/-- 'stowagelaw07.ShotGathers', WHERE WHAT IT READS IS OF BULK AT MOST 1048576: true; the input reads as it did. -/
def shotGathersUptoRow : OpenClaim := { program := "ythjfofgcikfepaa", sum := "118cd140a441044cbc5eed3b6e06c9e2a8c986d58788a15847df725ee215525e", func := "stowage/stowagelaw07.ShotGathers", spec := "shotGathers", inPlace := ["maps.clone"], apart := false, narrowed := true }
def ShotGathersUptoSaid : Prop := shotGathersUptoRow.holds Try.pinned (OpenSpec.upto shotGathersSpec)

/-- 'stowagelaw07.ShotWhole', WHERE WHAT IT READS IS OF BULK AT MOST 1048576: true; the input reads as it did. -/
def shotWholeUptoRow : OpenClaim := { program := "ythjfofgcikfepaa", sum := "118cd140a441044cbc5eed3b6e06c9e2a8c986d58788a15847df725ee215525e", func := "stowage/stowagelaw07.ShotWhole", spec := "shotWhole", inPlace := ["maps.clone"], apart := false, narrowed := true }
def ShotWholeUptoSaid : Prop := shotWholeUptoRow.holds Try.pinned (OpenSpec.upto shotWholeSpec)

/-- 'stowagelaw07.ShotLoads', WHERE WHAT IT READS IS OF BULK AT MOST 1048576: true; the input reads as it did. -/
def shotLoadsUptoRow : OpenClaim := { program := "ythjfofgcikfepaa", sum := "118cd140a441044cbc5eed3b6e06c9e2a8c986d58788a15847df725ee215525e", func := "stowage/stowagelaw07.ShotLoads", spec := "shotLoads", inPlace := ["maps.clone"], unfollowed := true, recurses := true, apart := false, narrowed := true }
def ShotLoadsUptoSaid : Prop := shotLoadsUptoRow.holds Try.pinned (OpenSpec.upto shotLoadsSpec)

end Rows
end Go.Proofs.Ythjfofgcikfepaa
