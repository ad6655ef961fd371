/-
  DERIVED. GIVEN WITH THE SEED: THE CARDS: each row of YtijdbjjkfkjihaaGreatDoorRows.lean that lists a variable, with what it lists TIED to the program's text (the seventh form; the later family's looks); each row that meets fmt, with fmt's text TOLD by the authors' own Lean function (tested against real Go, not proved from fmt's source: count such statements apart). THE CARD IS WHAT COUNTS. Prove the row's statement (the work); the ties are given (YtijdbjjkfkjihaaGreatDoorTie.lean); close each card by the builder's one call (the guide's Derived/Test/ToyasCard.lean, 'card_holds'). Laid BY PROGRAM, IN A SANDBOX (cutbox-door.mjs). By AI agents, Wed Nov 11 2026. No macro, syntax, notation, axiom, sorry.
-/
import Derived.Test.YtijdbjjkfkjihaaGreatDoorRows
import GoSem.ClaimSeven
namespace Go.Proofs.YtijdbjjkfkjihaaGreatDoor
namespace Rows

/-- THE TIED CARD OF 'flotsamlaw14.ViewTells'. -/
def viewTellsCard : Claim7 := { stood := { row := viewTellsRow, standIns := [], harness := (true, "4f1cbfe168aa213bce8ab5d90b7748061b3a8414cd2c4ab5b1b6779fad1b26be"), looks := false }, kinds := [], alts := [], laidByText := true, laidKinds := [.data, .pinned], laidTests := true, laidLooks := .later }
def ViewTellsCardSaid : Prop := Claim7.holds Tryz.pinned (.plain (OpenSpec.ofChange viewTellsSpec)) viewTellsCard

/-- THE TIED CARD OF 'flotsamlaw14.ViewTexts'. -/
def viewTextsCard : Claim7 := { stood := { row := viewTextsRow, standIns := [], harness := (true, "4f1cbfe168aa213bce8ab5d90b7748061b3a8414cd2c4ab5b1b6779fad1b26be"), looks := false }, kinds := [], alts := [], laidByText := true, laidKinds := [.data, .pinned], laidTests := true, laidLooks := .later }
def ViewTextsCardSaid : Prop := Claim7.holds Tryz.pinned (.plain (OpenSpec.ofChange viewTextsSpec)) viewTextsCard

/-- THE TIED CARD OF 'flotsamlaw14.ViewBack'. -/
def viewBackCard : Claim7 := { stood := { row := viewBackRow, standIns := [], harness := (true, "4f1cbfe168aa213bce8ab5d90b7748061b3a8414cd2c4ab5b1b6779fad1b26be"), looks := false }, kinds := [], alts := [], laidByText := true, laidKinds := [.data, .pinned], laidTests := true, laidLooks := .later }
def ViewBackCardSaid : Prop := Claim7.holds Tryz.pinned (.plain (OpenSpec.ofChange viewBackSpec)) viewBackCard

/-- THE TIED CARD OF 'flotsamlaw14.ViewFinds'. -/
def viewFindsCard : Claim7 := { stood := { row := viewFindsRow, standIns := [], harness := (true, "4f1cbfe168aa213bce8ab5d90b7748061b3a8414cd2c4ab5b1b6779fad1b26be"), looks := false }, kinds := [], alts := [], laidByText := true, laidKinds := [.data, .sentinel, .pinned], laidTests := true, laidLooks := .later }
def ViewFindsCardSaid : Prop := Claim7.holds Tryz.pinned (.plain (OpenSpec.ofChange viewFindsSpec)) viewFindsCard

/-- THE SECOND FORM's CARD OF 'flotsamlaw14.ViewTells'. -/
def viewTellsUptoCard : Claim7 := { stood := { row := viewTellsUptoRow, standIns := [], harness := (true, "4f1cbfe168aa213bce8ab5d90b7748061b3a8414cd2c4ab5b1b6779fad1b26be"), looks := false }, kinds := [], alts := [], laidByText := true, laidKinds := [.data, .pinned], laidTests := true, laidLooks := .later }
def ViewTellsUptoCardSaid : Prop := Claim7.holds Tryz.pinned (.plain (OpenSpec.upto viewTellsSpec)) viewTellsUptoCard

/-- THE SECOND FORM's CARD OF 'flotsamlaw14.ViewTexts'. -/
def viewTextsUptoCard : Claim7 := { stood := { row := viewTextsUptoRow, standIns := [], harness := (true, "4f1cbfe168aa213bce8ab5d90b7748061b3a8414cd2c4ab5b1b6779fad1b26be"), looks := false }, kinds := [], alts := [], laidByText := true, laidKinds := [.data, .pinned], laidTests := true, laidLooks := .later }
def ViewTextsUptoCardSaid : Prop := Claim7.holds Tryz.pinned (.plain (OpenSpec.upto viewTextsSpec)) viewTextsUptoCard

/-- THE SECOND FORM's CARD OF 'flotsamlaw14.ViewBack'. -/
def viewBackUptoCard : Claim7 := { stood := { row := viewBackUptoRow, standIns := [], harness := (true, "4f1cbfe168aa213bce8ab5d90b7748061b3a8414cd2c4ab5b1b6779fad1b26be"), looks := false }, kinds := [], alts := [], laidByText := true, laidKinds := [.data, .pinned], laidTests := true, laidLooks := .later }
def ViewBackUptoCardSaid : Prop := Claim7.holds Tryz.pinned (.plain (OpenSpec.upto viewBackSpec)) viewBackUptoCard

/-- THE SECOND FORM's CARD OF 'flotsamlaw14.ViewFinds'. -/
def viewFindsUptoCard : Claim7 := { stood := { row := viewFindsUptoRow, standIns := [], harness := (true, "4f1cbfe168aa213bce8ab5d90b7748061b3a8414cd2c4ab5b1b6779fad1b26be"), looks := false }, kinds := [], alts := [], laidByText := true, laidKinds := [.data, .sentinel, .pinned], laidTests := true, laidLooks := .later }
def ViewFindsUptoCardSaid : Prop := Claim7.holds Tryz.pinned (.plain (OpenSpec.upto viewFindsSpec)) viewFindsUptoCard
end Rows
end Go.Proofs.YtijdbjjkfkjihaaGreatDoor
