/-
  DERIVED. GIVEN WITH THE SEED: THE CARDS: each row of YtgldagkdfhabbaaDoorRows.lean that lists a variable, with what it lists TIED to the program's text (the seventh form; the later family's looks); each row that meets fmt, with fmt's text TOLD by the authors' own Lean function (tested against real Go, not proved from fmt's source: count such statements apart). THE CARD IS WHAT COUNTS. Prove the row's statement (the work); the ties are given (YtgldagkdfhabbaaDoorTie.lean); close each card by the builder's one call (the guide's Derived/Test/ToyasCard.lean, 'card_holds'). Laid BY PROGRAM, IN A SANDBOX (cutbox-door.mjs). By AI agents, Wed Nov 11 2026. No macro, syntax, notation, axiom, sorry.
-/
import Derived.Test.YtgldagkdfhabbaaDoorRows
import GoSem.ClaimSeven
namespace Go.Proofs.YtgldagkdfhabbaaDoor
namespace Rows

/-- THE TIED CARD OF 'flotsamlaw30.CellTells'. -/
def cellTellsCard : Claim7 := { stood := { row := cellTellsRow, standIns := [], harness := (true, "c17a42633cfabf6f6137006abce41ef22eb929798410eea861ddaeefa1eda5da"), looks := false }, kinds := [], alts := [], laidByText := true, laidKinds := [.data, .pinned], laidTests := true, laidLooks := .later }
def CellTellsCardSaid : Prop := Claim7.holds Tryd.pinned (.plain (OpenSpec.ofChange cellTellsSpec)) cellTellsCard

/-- THE TIED CARD OF 'flotsamlaw30.CellOf'. -/
def cellOfCard : Claim7 := { stood := { row := cellOfRow, standIns := [], harness := (true, "c17a42633cfabf6f6137006abce41ef22eb929798410eea861ddaeefa1eda5da"), looks := false }, kinds := [], alts := [], laidByText := true, laidKinds := [.data, .pinned], laidTests := true, laidLooks := .later }
def CellOfCardSaid : Prop := Claim7.holds Tryd.pinned (.plain (OpenSpec.ofChange cellOfSpec)) cellOfCard

/-- THE SECOND FORM's CARD OF 'flotsamlaw30.CellTells'. -/
def cellTellsUptoCard : Claim7 := { stood := { row := cellTellsUptoRow, standIns := [], harness := (true, "c17a42633cfabf6f6137006abce41ef22eb929798410eea861ddaeefa1eda5da"), looks := false }, kinds := [], alts := [], laidByText := true, laidKinds := [.data, .pinned], laidTests := true, laidLooks := .later }
def CellTellsUptoCardSaid : Prop := Claim7.holds Tryd.pinned (.plain (OpenSpec.upto cellTellsSpec)) cellTellsUptoCard

/-- THE SECOND FORM's CARD OF 'flotsamlaw30.CellOf'. -/
def cellOfUptoCard : Claim7 := { stood := { row := cellOfUptoRow, standIns := [], harness := (true, "c17a42633cfabf6f6137006abce41ef22eb929798410eea861ddaeefa1eda5da"), looks := false }, kinds := [], alts := [], laidByText := true, laidKinds := [.data, .pinned], laidTests := true, laidLooks := .later }
def CellOfUptoCardSaid : Prop := Claim7.holds Tryd.pinned (.plain (OpenSpec.upto cellOfSpec)) cellOfUptoCard
end Rows
end Go.Proofs.YtgldagkdfhabbaaDoor
