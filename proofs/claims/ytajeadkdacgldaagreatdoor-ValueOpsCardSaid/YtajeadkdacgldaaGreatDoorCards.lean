/-
  DERIVED. GIVEN WITH THE SEED: THE CARDS: each row of YtajeadkdacgldaaGreatDoorRows.lean that lists a variable, with what it lists TIED to the program's text (the seventh form; the later family's looks); each row that meets fmt, with fmt's text TOLD by the authors' own Lean function (tested against real Go, not proved from fmt's source: count such statements apart). THE CARD IS WHAT COUNTS. Prove the row's statement (the work); the ties are given (YtajeadkdacgldaaGreatDoorTie.lean); close each card by the builder's one call (the guide's Derived/Test/ToyasCard.lean, 'card_holds'). Laid BY PROGRAM, IN A SANDBOX (cutbox-door.mjs). By AI agents, Wed Nov 11 2026. No macro, syntax, notation, axiom, sorry.
-/
import Derived.Test.YtajeadkdacgldaaGreatDoorRows
import GoSem.ClaimSeven
namespace Go.Proofs.YtajeadkdacgldaaGreatDoor
namespace Rows

/-- THE TIED CARD OF 'flotsamlaw22.ValueOps'. -/
def valueOpsCard : Claim7 := { stood := { row := valueOpsRow, standIns := [], harness := (true, "8e7f6809527be9e4570582a92881a3a774e4e27634eeaca7801143d08eefaa0a"), looks := false }, kinds := [], alts := [], laidByText := true, laidKinds := [.data, .sentinel, .pinned], laidTests := true, laidLooks := .later }
def ValueOpsCardSaid : Prop := Claim7.holds Tryz.pinned (.plain (OpenSpec.ofChange valueOpsSpec)) valueOpsCard

/-- THE SECOND FORM's CARD OF 'flotsamlaw22.ValueOps'. -/
def valueOpsUptoCard : Claim7 := { stood := { row := valueOpsUptoRow, standIns := [], harness := (true, "8e7f6809527be9e4570582a92881a3a774e4e27634eeaca7801143d08eefaa0a"), looks := false }, kinds := [], alts := [], laidByText := true, laidKinds := [.data, .sentinel, .pinned], laidTests := true, laidLooks := .later }
def ValueOpsUptoCardSaid : Prop := Claim7.holds Tryz.pinned (.plain (OpenSpec.upto valueOpsSpec)) valueOpsUptoCard
end Rows
end Go.Proofs.YtajeadkdacgldaaGreatDoor
