/-
  DERIVED. GIVEN WITH THE SEED: THE CARDS: each row of YthknbpijaoljgaaGreatDoorRows.lean that lists a variable, with what it lists TIED to the program's text (the seventh form; the later family's looks); each row that meets fmt, with fmt's text TOLD by the authors' own Lean function (tested against real Go, not proved from fmt's source: count such statements apart). THE CARD IS WHAT COUNTS. Prove the row's statement (the work); the ties are given (YthknbpijaoljgaaGreatDoorTie.lean); close each card by the builder's one call (the guide's Derived/Test/ToyasCard.lean, 'card_holds'). Laid BY PROGRAM, IN A SANDBOX (cutbox-door.mjs). By AI agents, Wed Nov 11 2026. No macro, syntax, notation, axiom, sorry.
-/
import Derived.Test.YthknbpijaoljgaaGreatDoorRows
import GoSem.ClaimSeven
namespace Go.Proofs.YthknbpijaoljgaaGreatDoor
namespace Rows

/-- THE TIED CARD OF 'flotsamlaw38.MendTells'. -/
def mendTellsCard : Claim7 := { stood := { row := mendTellsRow, standIns := [], harness := (true, "cdfec809b7b01f6e10fc78dd277ac6be20ba9d8d10d1b641b02070b43ee20443"), looks := false }, kinds := [], alts := [], laidByText := true, laidKinds := [.data, .pinned], laidTests := true, laidLooks := .later }
def MendTellsCardSaid : Prop := Claim7.holds Tryz.pinned (.plain (OpenSpec.ofChange mendTellsSpec)) mendTellsCard

/-- THE TIED CARD OF 'flotsamlaw37.SureTells'. -/
def sureTellsCard : Claim7 := { stood := { row := sureTellsRow, standIns := [], harness := (true, "cdfec809b7b01f6e10fc78dd277ac6be20ba9d8d10d1b641b02070b43ee20443"), looks := false }, kinds := [], alts := [], laidByText := true, laidKinds := [.data, .pinned], laidTests := true, laidLooks := .later }
def SureTellsCardSaid : Prop := Claim7.holds Tryz.pinned (.plain (OpenSpec.ofChange sureTellsSpec)) sureTellsCard

/-- THE TIED CARD OF 'flotsamlaw37.SureHolds'. -/
def sureHoldsCard : Claim7 := { stood := { row := sureHoldsRow, standIns := [], harness := (true, "cdfec809b7b01f6e10fc78dd277ac6be20ba9d8d10d1b641b02070b43ee20443"), looks := false }, kinds := [], alts := [], laidByText := true, laidKinds := [.data, .pinned], laidTests := true, laidLooks := .later }
def SureHoldsCardSaid : Prop := Claim7.holds Tryz.pinned (.plain (OpenSpec.ofChange sureHoldsSpec)) sureHoldsCard

/-- THE SECOND FORM's CARD OF 'flotsamlaw38.MendTells'. -/
def mendTellsUptoCard : Claim7 := { stood := { row := mendTellsUptoRow, standIns := [], harness := (true, "cdfec809b7b01f6e10fc78dd277ac6be20ba9d8d10d1b641b02070b43ee20443"), looks := false }, kinds := [], alts := [], laidByText := true, laidKinds := [.data, .pinned], laidTests := true, laidLooks := .later }
def MendTellsUptoCardSaid : Prop := Claim7.holds Tryz.pinned (.plain (OpenSpec.upto mendTellsSpec)) mendTellsUptoCard

/-- THE SECOND FORM's CARD OF 'flotsamlaw37.SureTells'. -/
def sureTellsUptoCard : Claim7 := { stood := { row := sureTellsUptoRow, standIns := [], harness := (true, "cdfec809b7b01f6e10fc78dd277ac6be20ba9d8d10d1b641b02070b43ee20443"), looks := false }, kinds := [], alts := [], laidByText := true, laidKinds := [.data, .pinned], laidTests := true, laidLooks := .later }
def SureTellsUptoCardSaid : Prop := Claim7.holds Tryz.pinned (.plain (OpenSpec.upto sureTellsSpec)) sureTellsUptoCard

/-- THE SECOND FORM's CARD OF 'flotsamlaw37.SureHolds'. -/
def sureHoldsUptoCard : Claim7 := { stood := { row := sureHoldsUptoRow, standIns := [], harness := (true, "cdfec809b7b01f6e10fc78dd277ac6be20ba9d8d10d1b641b02070b43ee20443"), looks := false }, kinds := [], alts := [], laidByText := true, laidKinds := [.data, .pinned], laidTests := true, laidLooks := .later }
def SureHoldsUptoCardSaid : Prop := Claim7.holds Tryz.pinned (.plain (OpenSpec.upto sureHoldsSpec)) sureHoldsUptoCard
end Rows
end Go.Proofs.YthknbpijaoljgaaGreatDoor
