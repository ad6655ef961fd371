/-
  DERIVED. GIVEN WITH THE SEED: THE CARDS: each row of YtikgcbioagmkkaaGreatDoorRows.lean that lists a variable, with what it lists TIED to the program's text (the seventh form; the later family's looks); each row that meets fmt, with fmt's text TOLD by the authors' own Lean function (tested against real Go, not proved from fmt's source: count such statements apart). THE CARD IS WHAT COUNTS. Prove the row's statement (the work); the ties are given (YtikgcbioagmkkaaGreatDoorTie.lean); close each card by the builder's one call (the guide's Derived/Test/ToyasCard.lean, 'card_holds'). Laid BY PROGRAM, IN A SANDBOX (cutbox-door.mjs). By AI agents, Wed Nov 11 2026. No macro, syntax, notation, axiom, sorry.
-/
import Derived.Test.YtikgcbioagmkkaaGreatDoorRows
import GoSem.ClaimSeven
namespace Go.Proofs.YtikgcbioagmkkaaGreatDoor
namespace Rows

/-- THE TIED CARD OF 'flotsamlaw12.FlushNone'. -/
def flushNoneCard : Claim7 := { stood := { row := flushNoneRow, standIns := [], harness := (true, "53b5655fd2026dd49f3ff9a6c2c5429d4bc3277ad037856ab774bfdf45d488a6"), looks := false }, kinds := [], alts := [], laidByText := true, laidKinds := [.data, .pinned], laidTests := true, laidLooks := .later }
def FlushNoneCardSaid : Prop := Claim7.holds Tryz.pinned (.plain (OpenSpec.ofChange flushNoneSpec)) flushNoneCard

/-- THE TIED CARD OF 'flotsamlaw12.FlushPlays'. -/
def flushPlaysCard : Claim7 := { stood := { row := flushPlaysRow, standIns := [], harness := (true, "53b5655fd2026dd49f3ff9a6c2c5429d4bc3277ad037856ab774bfdf45d488a6"), looks := false }, kinds := [], alts := [], laidByText := true, laidKinds := [.data, .pinned], laidTests := true, laidLooks := .later }
def FlushPlaysCardSaid : Prop := Claim7.holds Tryz.pinned (.plain (OpenSpec.ofChange flushPlaysSpec)) flushPlaysCard

/-- THE TIED CARD OF 'flotsamlaw11.SfsPlays'. -/
def sfsPlaysCard : Claim7 := { stood := { row := sfsPlaysRow, standIns := [], harness := (true, "53b5655fd2026dd49f3ff9a6c2c5429d4bc3277ad037856ab774bfdf45d488a6"), looks := false }, kinds := [], alts := [], laidByText := true, laidKinds := [.data, .sentinel, .pinned], laidTests := true, laidLooks := .later }
def SfsPlaysCardSaid : Prop := Claim7.holds Tryz.pinned (.plain (OpenSpec.ofChange sfsPlaysSpec)) sfsPlaysCard

/-- THE TIED CARD OF 'flotsamlaw13.CheckStays'. -/
def checkStaysCard : Claim7 := { stood := { row := checkStaysRow, standIns := [], harness := (true, "53b5655fd2026dd49f3ff9a6c2c5429d4bc3277ad037856ab774bfdf45d488a6"), looks := false }, kinds := [], alts := [], laidByText := true, laidKinds := [.data, .pinned], laidTests := true, laidLooks := .later }
def CheckStaysCardSaid : Prop := Claim7.holds Tryz.pinned (.plain (OpenSpec.ofChange checkStaysSpec)) checkStaysCard

/-- THE SECOND FORM's CARD OF 'flotsamlaw12.FlushNone'. -/
def flushNoneUptoCard : Claim7 := { stood := { row := flushNoneUptoRow, standIns := [], harness := (true, "53b5655fd2026dd49f3ff9a6c2c5429d4bc3277ad037856ab774bfdf45d488a6"), looks := false }, kinds := [], alts := [], laidByText := true, laidKinds := [.data, .pinned], laidTests := true, laidLooks := .later }
def FlushNoneUptoCardSaid : Prop := Claim7.holds Tryz.pinned (.plain (OpenSpec.upto flushNoneSpec)) flushNoneUptoCard

/-- THE SECOND FORM's CARD OF 'flotsamlaw12.FlushPlays'. -/
def flushPlaysUptoCard : Claim7 := { stood := { row := flushPlaysUptoRow, standIns := [], harness := (true, "53b5655fd2026dd49f3ff9a6c2c5429d4bc3277ad037856ab774bfdf45d488a6"), looks := false }, kinds := [], alts := [], laidByText := true, laidKinds := [.data, .pinned], laidTests := true, laidLooks := .later }
def FlushPlaysUptoCardSaid : Prop := Claim7.holds Tryz.pinned (.plain (OpenSpec.upto flushPlaysSpec)) flushPlaysUptoCard

/-- THE SECOND FORM's CARD OF 'flotsamlaw11.SfsPlays'. -/
def sfsPlaysUptoCard : Claim7 := { stood := { row := sfsPlaysUptoRow, standIns := [], harness := (true, "53b5655fd2026dd49f3ff9a6c2c5429d4bc3277ad037856ab774bfdf45d488a6"), looks := false }, kinds := [], alts := [], laidByText := true, laidKinds := [.data, .sentinel, .pinned], laidTests := true, laidLooks := .later }
def SfsPlaysUptoCardSaid : Prop := Claim7.holds Tryz.pinned (.plain (OpenSpec.upto sfsPlaysSpec)) sfsPlaysUptoCard

/-- THE SECOND FORM's CARD OF 'flotsamlaw13.CheckStays'. -/
def checkStaysUptoCard : Claim7 := { stood := { row := checkStaysUptoRow, standIns := [], harness := (true, "53b5655fd2026dd49f3ff9a6c2c5429d4bc3277ad037856ab774bfdf45d488a6"), looks := false }, kinds := [], alts := [], laidByText := true, laidKinds := [.data, .pinned], laidTests := true, laidLooks := .later }
def CheckStaysUptoCardSaid : Prop := Claim7.holds Tryz.pinned (.plain (OpenSpec.upto checkStaysSpec)) checkStaysUptoCard
end Rows
end Go.Proofs.YtikgcbioagmkkaaGreatDoor
