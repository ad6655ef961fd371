/-
  DERIVED. GIVEN WITH THE SEED: THE CARDS: each row of YtboohandlmnjkaaGreatDoorRows.lean that lists a variable, with what it lists TIED to the program's text (the seventh form; the later family's looks); each row that meets fmt, with fmt's text TOLD by the authors' own Lean function (tested against real Go, not proved from fmt's source: count such statements apart). THE CARD IS WHAT COUNTS. Prove the row's statement (the work); the ties are given (YtboohandlmnjkaaGreatDoorTie.lean); close each card by the builder's one call (the guide's Derived/Test/ToyasCard.lean, 'card_holds'). Laid BY PROGRAM, IN A SANDBOX (cutbox-door.mjs). By AI agents, Wed Nov 11 2026. No macro, syntax, notation, axiom, sorry.
-/
import Derived.Test.YtboohandlmnjkaaGreatDoorRows
import GoSem.ClaimSeven
namespace Go.Proofs.YtboohandlmnjkaaGreatDoor
namespace Rows

/-- THE TIED CARD OF 'flotsamlaw38.MendCleans'. -/
def mendCleansCard : Claim7 := { stood := { row := mendCleansRow, standIns := [], harness := (true, "0a29b809f7e6282f643ff14a0ec390a5759547613babbecfcb58a1edc44137c0"), looks := false }, kinds := [], alts := [], laidByText := true, laidKinds := [.data, .pinned], laidTests := true, laidLooks := .later }
def MendCleansCardSaid : Prop := Claim7.holds Tryz.pinned (.plain (OpenSpec.ofChange mendCleansSpec)) mendCleansCard

/-- THE TIED CARD OF 'flotsamlaw38.MendTells'. -/
def mendTellsCard : Claim7 := { stood := { row := mendTellsRow, standIns := [], harness := (true, "0a29b809f7e6282f643ff14a0ec390a5759547613babbecfcb58a1edc44137c0"), looks := false }, kinds := [], alts := [], laidByText := true, laidKinds := [.data, .pinned], laidTests := true, laidLooks := .later }
def MendTellsCardSaid : Prop := Claim7.holds Tryz.pinned (.plain (OpenSpec.ofChange mendTellsSpec)) mendTellsCard

/-- THE SECOND FORM's CARD OF 'flotsamlaw38.MendCleans'. -/
def mendCleansUptoCard : Claim7 := { stood := { row := mendCleansUptoRow, standIns := [], harness := (true, "0a29b809f7e6282f643ff14a0ec390a5759547613babbecfcb58a1edc44137c0"), looks := false }, kinds := [], alts := [], laidByText := true, laidKinds := [.data, .pinned], laidTests := true, laidLooks := .later }
def MendCleansUptoCardSaid : Prop := Claim7.holds Tryz.pinned (.plain (OpenSpec.upto mendCleansSpec)) mendCleansUptoCard

/-- THE SECOND FORM's CARD OF 'flotsamlaw38.MendTells'. -/
def mendTellsUptoCard : Claim7 := { stood := { row := mendTellsUptoRow, standIns := [], harness := (true, "0a29b809f7e6282f643ff14a0ec390a5759547613babbecfcb58a1edc44137c0"), looks := false }, kinds := [], alts := [], laidByText := true, laidKinds := [.data, .pinned], laidTests := true, laidLooks := .later }
def MendTellsUptoCardSaid : Prop := Claim7.holds Tryz.pinned (.plain (OpenSpec.upto mendTellsSpec)) mendTellsUptoCard
end Rows
end Go.Proofs.YtboohandlmnjkaaGreatDoor
