/-
  DERIVED. GIVEN WITH THE SEED: THE CARDS: each row of YtfpcclakpklghaaGreatDoorRows.lean that lists a variable, with what it lists TIED to the program's text (the seventh form; the later family's looks); each row that meets fmt, with fmt's text TOLD by the authors' own Lean function (tested against real Go, not proved from fmt's source: count such statements apart). THE CARD IS WHAT COUNTS. Prove the row's statement (the work); the ties are given (YtfpcclakpklghaaGreatDoorTie.lean); close each card by the builder's one call (the guide's Derived/Test/ToyasCard.lean, 'card_holds'). Laid BY PROGRAM, IN A SANDBOX (cutbox-door.mjs). By AI agents, Wed Nov 11 2026. No macro, syntax, notation, axiom, sorry.
-/
import Derived.Test.YtfpcclakpklghaaGreatDoorRows
import GoSem.ClaimSeven
namespace Go.Proofs.YtfpcclakpklghaaGreatDoor
namespace Rows

/-- THE TIED CARD OF 'flotsamlaw09.LookReads'. -/
def lookReadsCard : Claim7 := { stood := { row := lookReadsRow, standIns := [], harness := (true, "07ead3cae378a626ac810694e285a1a1e3f9f836f99d5367d308941d1e56cef0"), looks := false }, kinds := [], alts := [], laidByText := true, laidKinds := [.data, .pinned], laidTests := true, laidLooks := .later }
def LookReadsCardSaid : Prop := Claim7.holds Tryz.pinned (.plain (OpenSpec.ofChange lookReadsSpec)) lookReadsCard

/-- THE SECOND FORM's CARD OF 'flotsamlaw09.LookReads'. -/
def lookReadsUptoCard : Claim7 := { stood := { row := lookReadsUptoRow, standIns := [], harness := (true, "07ead3cae378a626ac810694e285a1a1e3f9f836f99d5367d308941d1e56cef0"), looks := false }, kinds := [], alts := [], laidByText := true, laidKinds := [.data, .pinned], laidTests := true, laidLooks := .later }
def LookReadsUptoCardSaid : Prop := Claim7.holds Tryz.pinned (.plain (OpenSpec.upto lookReadsSpec)) lookReadsUptoCard
end Rows
end Go.Proofs.YtfpcclakpklghaaGreatDoor
