/-
  DERIVED. GIVEN WITH THE SEED: THE CARDS: each row of YtdeakccaecphlaaGreatDoorRows.lean that lists a variable, with what it lists TIED to the program's text (the seventh form; the later family's looks); each row that meets fmt, with fmt's text TOLD by the authors' own Lean function (tested against real Go, not proved from fmt's source: count such statements apart). THE CARD IS WHAT COUNTS. Prove the row's statement (the work); the ties are given (YtdeakccaecphlaaGreatDoorTie.lean); close each card by the builder's one call (the guide's Derived/Test/ToyasCard.lean, 'card_holds'). Laid BY PROGRAM, IN A SANDBOX (cutbox-door.mjs). By AI agents, Wed Nov 11 2026. No macro, syntax, notation, axiom, sorry.
-/
import Derived.Test.YtdeakccaecphlaaGreatDoorRows
import GoSem.ClaimSeven
namespace Go.Proofs.YtdeakccaecphlaaGreatDoor
namespace Rows

/-- THE TIED CARD OF 'stowagelaw06.ExtentOpens'. -/
def extentOpensCard : Claim7 := { stood := { row := extentOpensRow, standIns := [], harness := (true, "fec897a39a94c06e73879e7a8670bf9ea989866ed9dfbca44106a431014e4983"), looks := true }, kinds := [], alts := [], laidByText := true, laidKinds := [.data], laidTests := true, laidLooks := .later }
def ExtentOpensCardSaid : Prop := Claim7.holds Tryz.pinned (.plain (OpenSpec.ofChange extentOpensSpec)) extentOpensCard

/-- THE TIED CARD OF 'stowagelaw06.ExtentKeeps'. -/
def extentKeepsCard : Claim7 := { stood := { row := extentKeepsRow, standIns := [], harness := (true, "fec897a39a94c06e73879e7a8670bf9ea989866ed9dfbca44106a431014e4983"), looks := true }, kinds := [], alts := [], laidByText := true, laidKinds := [.data], laidTests := true, laidLooks := .later }
def ExtentKeepsCardSaid : Prop := Claim7.holds Tryz.pinned (.plain (OpenSpec.ofChange extentKeepsSpec)) extentKeepsCard

/-- THE SECOND FORM's CARD OF 'stowagelaw06.ExtentOpens'. -/
def extentOpensUptoCard : Claim7 := { stood := { row := extentOpensUptoRow, standIns := [], harness := (true, "fec897a39a94c06e73879e7a8670bf9ea989866ed9dfbca44106a431014e4983"), looks := true }, kinds := [], alts := [], laidByText := true, laidKinds := [.data], laidTests := true, laidLooks := .later }
def ExtentOpensUptoCardSaid : Prop := Claim7.holds Tryz.pinned (.plain (OpenSpec.upto extentOpensSpec)) extentOpensUptoCard

/-- THE SECOND FORM's CARD OF 'stowagelaw06.ExtentKeeps'. -/
def extentKeepsUptoCard : Claim7 := { stood := { row := extentKeepsUptoRow, standIns := [], harness := (true, "fec897a39a94c06e73879e7a8670bf9ea989866ed9dfbca44106a431014e4983"), looks := true }, kinds := [], alts := [], laidByText := true, laidKinds := [.data], laidTests := true, laidLooks := .later }
def ExtentKeepsUptoCardSaid : Prop := Claim7.holds Tryz.pinned (.plain (OpenSpec.upto extentKeepsSpec)) extentKeepsUptoCard
end Rows
end Go.Proofs.YtdeakccaecphlaaGreatDoor
