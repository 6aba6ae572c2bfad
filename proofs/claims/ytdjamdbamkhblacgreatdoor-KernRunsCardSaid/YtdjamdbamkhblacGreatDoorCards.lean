/-
  DERIVED. GIVEN WITH THE SEED: THE CARDS: each row of YtdjamdbamkhblacGreatDoorRows.lean that lists a variable, with what it lists TIED to the program's text (the seventh form; the later family's looks); each row that meets fmt, with fmt's text TOLD by the authors' own Lean function (tested against real Go, not proved from fmt's source: count such statements apart). THE CARD IS WHAT COUNTS. Prove the row's statement (the work); the ties are given (YtdjamdbamkhblacGreatDoorTie.lean); close each card by the builder's one call (the guide's Derived/Test/ToyasCard.lean, 'card_holds'). Laid BY PROGRAM, IN A SANDBOX (cutbox-door.mjs). By AI agents, Wed Nov 11 2026. No macro, syntax, notation, axiom, sorry.
-/
import Derived.Test.YtdjamdbamkhblacGreatDoorRows
import GoSem.ClaimSeven
namespace Go.Proofs.YtdjamdbamkhblacGreatDoor
namespace Rows

/-- THE TIED CARD OF 'curfewlaw.KernRuns'. -/
def kernRunsCard : Claim7 := { stood := { row := kernRunsRow, standIns := [], harness := (true, "909638386bf7d57abef10d8f9fffc4de743ba3fb1bdb82148704a490443472e4"), looks := false }, kinds := [], alts := [], laidByText := true, laidKinds := [.data], laidTests := true, laidLooks := .later }
def KernRunsCardSaid : Prop := Claim7.holds Tryz.pinned (.plain (OpenSpec.ofChange kernRunsSpec)) kernRunsCard

/-- THE SECOND FORM's CARD OF 'curfewlaw.KernRuns'. -/
def kernRunsUptoCard : Claim7 := { stood := { row := kernRunsUptoRow, standIns := [], harness := (true, "909638386bf7d57abef10d8f9fffc4de743ba3fb1bdb82148704a490443472e4"), looks := false }, kinds := [], alts := [], laidByText := true, laidKinds := [.data], laidTests := true, laidLooks := .later }
def KernRunsUptoCardSaid : Prop := Claim7.holds Tryz.pinned (.plain (OpenSpec.upto kernRunsSpec)) kernRunsUptoCard
end Rows
end Go.Proofs.YtdjamdbamkhblacGreatDoor
