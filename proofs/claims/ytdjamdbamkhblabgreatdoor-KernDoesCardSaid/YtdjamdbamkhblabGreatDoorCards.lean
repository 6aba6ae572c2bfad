/-
  DERIVED. GIVEN WITH THE SEED: THE CARDS: each row of YtdjamdbamkhblabGreatDoorRows.lean that lists a variable, with what it lists TIED to the program's text (the seventh form; the later family's looks); each row that meets fmt, with fmt's text TOLD by the authors' own Lean function (tested against real Go, not proved from fmt's source: count such statements apart). THE CARD IS WHAT COUNTS. Prove the row's statement (the work); the ties are given (YtdjamdbamkhblabGreatDoorTie.lean); close each card by the builder's one call (the guide's Derived/Test/ToyasCard.lean, 'card_holds'). Laid BY PROGRAM, IN A SANDBOX (cutbox-door.mjs). By AI agents, Wed Nov 11 2026. No macro, syntax, notation, axiom, sorry.
-/
import Derived.Test.YtdjamdbamkhblabGreatDoorRows
import GoSem.ClaimSeven
namespace Go.Proofs.YtdjamdbamkhblabGreatDoor
namespace Rows

/-- THE TIED CARD OF 'curfewlaw.KernDoes'. -/
def kernDoesCard : Claim7 := { stood := { row := kernDoesRow, standIns := [], harness := (true, "7dbe7559f70124932b2cea021153e8b34aa54ac2c6c6fff01d6e51d7eed0729b"), looks := false }, kinds := [], alts := [], laidByText := true, laidKinds := [.data], laidTests := true, laidLooks := .later }
def KernDoesCardSaid : Prop := Claim7.holds Tryz.pinned (.plain (OpenSpec.ofChange kernDoesSpec)) kernDoesCard

/-- THE SECOND FORM's CARD OF 'curfewlaw.KernDoes'. -/
def kernDoesUptoCard : Claim7 := { stood := { row := kernDoesUptoRow, standIns := [], harness := (true, "7dbe7559f70124932b2cea021153e8b34aa54ac2c6c6fff01d6e51d7eed0729b"), looks := false }, kinds := [], alts := [], laidByText := true, laidKinds := [.data], laidTests := true, laidLooks := .later }
def KernDoesUptoCardSaid : Prop := Claim7.holds Tryz.pinned (.plain (OpenSpec.upto kernDoesSpec)) kernDoesUptoCard
end Rows
end Go.Proofs.YtdjamdbamkhblabGreatDoor
