/-
  DERIVED. GIVEN WITH THE SEED: THE CARDS: each row of YtmfokpfddponjaaGreatDoorRows.lean that lists a variable, with what it lists TIED to the program's text (the seventh form; the later family's looks); each row that meets fmt, with fmt's text TOLD by the authors' own Lean function (tested against real Go, not proved from fmt's source: count such statements apart). THE CARD IS WHAT COUNTS. Prove the row's statement (the work); the ties are given (YtmfokpfddponjaaGreatDoorTie.lean); close each card by the builder's one call (the guide's Derived/Test/ToyasCard.lean, 'card_holds'). Laid BY PROGRAM, IN A SANDBOX (cutbox-door.mjs). By AI agents, Wed Nov 11 2026. No macro, syntax, notation, axiom, sorry.
-/
import Derived.Test.YtmfokpfddponjaaGreatDoorRows
import GoSem.ClaimSeven
namespace Go.Proofs.YtmfokpfddponjaaGreatDoor
namespace Rows

/-- THE TIED CARD OF 'flotsamlaw38.MendKeeps'. -/
def mendKeepsCard : Claim7 := { stood := { row := mendKeepsRow, standIns := [], harness := (true, "6eaf4146be9b3b42520f34f0ec82bddcd135ddf5d02c937ee94d7dcea802e09d"), looks := false }, kinds := [], alts := [], laidByText := true, laidKinds := [.data, .sentinel, .pinned], laidTests := true, laidLooks := .later }
def MendKeepsCardSaid : Prop := Claim7.holds Tryz.pinned (.plain (OpenSpec.ofChange mendKeepsSpec)) mendKeepsCard

/-- THE SECOND FORM's CARD OF 'flotsamlaw38.MendKeeps'. -/
def mendKeepsUptoCard : Claim7 := { stood := { row := mendKeepsUptoRow, standIns := [], harness := (true, "6eaf4146be9b3b42520f34f0ec82bddcd135ddf5d02c937ee94d7dcea802e09d"), looks := false }, kinds := [], alts := [], laidByText := true, laidKinds := [.data, .sentinel, .pinned], laidTests := true, laidLooks := .later }
def MendKeepsUptoCardSaid : Prop := Claim7.holds Tryz.pinned (.plain (OpenSpec.upto mendKeepsSpec)) mendKeepsUptoCard
end Rows
end Go.Proofs.YtmfokpfddponjaaGreatDoor
