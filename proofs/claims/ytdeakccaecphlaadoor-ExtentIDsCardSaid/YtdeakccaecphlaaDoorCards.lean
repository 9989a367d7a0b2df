/-
  DERIVED. GIVEN WITH THE SEED: THE CARDS: each row of YtdeakccaecphlaaDoorRows.lean that lists a variable, with what it lists TIED to the program's text (the seventh form; the later family's looks); each row that meets fmt, with fmt's text TOLD by the authors' own Lean function (tested against real Go, not proved from fmt's source: count such statements apart). THE CARD IS WHAT COUNTS. Prove the row's statement (the work); the ties are given (YtdeakccaecphlaaDoorTie.lean); close each card by the builder's one call (the guide's Derived/Test/ToyasCard.lean, 'card_holds'). Laid BY PROGRAM, IN A SANDBOX (cutbox-door.mjs). By AI agents, Wed Nov 11 2026. No macro, syntax, notation, axiom, sorry.
-/
import Derived.Test.YtdeakccaecphlaaDoorRows
import GoSem.ClaimSeven
namespace Go.Proofs.YtdeakccaecphlaaDoor
namespace Rows

/-- THE TIED CARD OF 'stowagelaw06.ExtentIDs'. -/
def extentIDsCard : Claim7 := { stood := { row := extentIDsRow, standIns := [], harness := (true, "45bcd23df0a342a3ca41545f99f6945071e8da4392f31cb396cb9a4be69f36b5"), looks := true }, kinds := [], alts := [], laidByText := true, laidKinds := [.data], laidTests := true, laidLooks := .later }
def ExtentIDsCardSaid : Prop := Claim7.holds Tryd.pinned (.plain (OpenSpec.ofChange extentIDsSpec)) extentIDsCard

/-- THE SECOND FORM's CARD OF 'stowagelaw06.ExtentIDs'. -/
def extentIDsUptoCard : Claim7 := { stood := { row := extentIDsUptoRow, standIns := [], harness := (true, "45bcd23df0a342a3ca41545f99f6945071e8da4392f31cb396cb9a4be69f36b5"), looks := true }, kinds := [], alts := [], laidByText := true, laidKinds := [.data], laidTests := true, laidLooks := .later }
def ExtentIDsUptoCardSaid : Prop := Claim7.holds Tryd.pinned (.plain (OpenSpec.upto extentIDsSpec)) extentIDsUptoCard
end Rows
end Go.Proofs.YtdeakccaecphlaaDoor
