/-
  DERIVED. GIVEN WITH THE SEED: THE CARDS: each row of YtdjamdbamkhblaaDoorRows.lean that lists a variable, with what it lists TIED to the program's text (the seventh form; the later family's looks); each row that meets fmt, with fmt's text TOLD by the authors' own Lean function (tested against real Go, not proved from fmt's source: count such statements apart). THE CARD IS WHAT COUNTS. Prove the row's statement (the work); the ties are given (YtdjamdbamkhblaaDoorTie.lean); close each card by the builder's one call (the guide's Derived/Test/ToyasCard.lean, 'card_holds'). Laid BY PROGRAM, IN A SANDBOX (cutbox-door.mjs). By AI agents, Wed Nov 11 2026. No macro, syntax, notation, axiom, sorry.
-/
import Derived.Test.YtdjamdbamkhblaaDoorRows
import GoSem.ClaimSeven
namespace Go.Proofs.YtdjamdbamkhblaaDoor
namespace Rows

/-- THE TIED CARD OF 'curfewlaw.CodeChecks'. -/
def codeChecksCard : Claim7 := { stood := { row := codeChecksRow, standIns := [], harness := (true, "6ded79a93edf7ea88e8e691472ea4d05f8e53664f624f8ac2ad1be492a9538ea"), looks := false }, kinds := [], alts := [], laidByText := true, laidKinds := [.data], laidTests := true, laidLooks := .later }
def CodeChecksCardSaid : Prop := Claim7.holds Tryd.pinned (.plain (OpenSpec.ofChange codeChecksSpec)) codeChecksCard

/-- THE TIED CARD OF 'curfewlaw.SafeVerifies'. -/
def safeVerifiesCard : Claim7 := { stood := { row := safeVerifiesRow, standIns := [], harness := (true, "6ded79a93edf7ea88e8e691472ea4d05f8e53664f624f8ac2ad1be492a9538ea"), looks := false }, kinds := [], alts := [], laidByText := true, laidKinds := [.data], laidTests := true, laidLooks := .later }
def SafeVerifiesCardSaid : Prop := Claim7.holds Tryd.pinned (.plain (OpenSpec.ofChange safeVerifiesSpec)) safeVerifiesCard

/-- THE TIED CARD OF 'curfewtop.TopMade'. -/
def topMadeCard : Claim7 := { stood := { row := topMadeRow, standIns := [], harness := (true, "6ded79a93edf7ea88e8e691472ea4d05f8e53664f624f8ac2ad1be492a9538ea"), looks := false }, kinds := [], alts := [], laidByText := true, laidKinds := [.data], laidTests := true, laidLooks := .later }
def TopMadeCardSaid : Prop := Claim7.holds Tryd.pinned (.plain (OpenSpec.ofChange topMadeSpec)) topMadeCard

/-- THE TIED CARD OF 'curfewlaw.ModuleChecks'. -/
def moduleChecksCard : Claim7 := { stood := { row := moduleChecksRow, standIns := [], harness := (true, "6ded79a93edf7ea88e8e691472ea4d05f8e53664f624f8ac2ad1be492a9538ea"), looks := false }, kinds := [], alts := [], laidByText := true, laidKinds := [.data], laidTests := true, laidLooks := .later }
def ModuleChecksCardSaid : Prop := Claim7.holds Tryd.pinned (.plain (OpenSpec.ofChange moduleChecksSpec)) moduleChecksCard

/-- THE TIED CARD OF 'curfewlaw.SafeMakes'. -/
def safeMakesCard : Claim7 := { stood := { row := safeMakesRow, standIns := [], harness := (true, "6ded79a93edf7ea88e8e691472ea4d05f8e53664f624f8ac2ad1be492a9538ea"), looks := false }, kinds := [], alts := [], laidByText := true, laidKinds := [.data], laidTests := true, laidLooks := .later }
def SafeMakesCardSaid : Prop := Claim7.holds Tryd.pinned (.plain (OpenSpec.ofChange safeMakesSpec)) safeMakesCard

/-- THE TIED CARD OF 'curfewlaw.ModuleEncodes'. -/
def moduleEncodesCard : Claim7 := { stood := { row := moduleEncodesRow, standIns := [], harness := (true, "6ded79a93edf7ea88e8e691472ea4d05f8e53664f624f8ac2ad1be492a9538ea"), looks := false }, kinds := [], alts := [], laidByText := true, laidKinds := [.data], laidTests := true, laidLooks := .later }
def ModuleEncodesCardSaid : Prop := Claim7.holds Tryd.pinned (.plain (OpenSpec.ofChange moduleEncodesSpec)) moduleEncodesCard

/-- THE SECOND FORM's CARD OF 'curfewlaw.CodeChecks'. -/
def codeChecksUptoCard : Claim7 := { stood := { row := codeChecksUptoRow, standIns := [], harness := (true, "6ded79a93edf7ea88e8e691472ea4d05f8e53664f624f8ac2ad1be492a9538ea"), looks := false }, kinds := [], alts := [], laidByText := true, laidKinds := [.data], laidTests := true, laidLooks := .later }
def CodeChecksUptoCardSaid : Prop := Claim7.holds Tryd.pinned (.plain (OpenSpec.upto codeChecksSpec)) codeChecksUptoCard

/-- THE SECOND FORM's CARD OF 'curfewlaw.SafeVerifies'. -/
def safeVerifiesUptoCard : Claim7 := { stood := { row := safeVerifiesUptoRow, standIns := [], harness := (true, "6ded79a93edf7ea88e8e691472ea4d05f8e53664f624f8ac2ad1be492a9538ea"), looks := false }, kinds := [], alts := [], laidByText := true, laidKinds := [.data], laidTests := true, laidLooks := .later }
def SafeVerifiesUptoCardSaid : Prop := Claim7.holds Tryd.pinned (.plain (OpenSpec.upto safeVerifiesSpec)) safeVerifiesUptoCard

/-- THE SECOND FORM's CARD OF 'curfewtop.TopMade'. -/
def topMadeUptoCard : Claim7 := { stood := { row := topMadeUptoRow, standIns := [], harness := (true, "6ded79a93edf7ea88e8e691472ea4d05f8e53664f624f8ac2ad1be492a9538ea"), looks := false }, kinds := [], alts := [], laidByText := true, laidKinds := [.data], laidTests := true, laidLooks := .later }
def TopMadeUptoCardSaid : Prop := Claim7.holds Tryd.pinned (.plain (OpenSpec.upto topMadeSpec)) topMadeUptoCard

/-- THE SECOND FORM's CARD OF 'curfewlaw.ModuleChecks'. -/
def moduleChecksUptoCard : Claim7 := { stood := { row := moduleChecksUptoRow, standIns := [], harness := (true, "6ded79a93edf7ea88e8e691472ea4d05f8e53664f624f8ac2ad1be492a9538ea"), looks := false }, kinds := [], alts := [], laidByText := true, laidKinds := [.data], laidTests := true, laidLooks := .later }
def ModuleChecksUptoCardSaid : Prop := Claim7.holds Tryd.pinned (.plain (OpenSpec.upto moduleChecksSpec)) moduleChecksUptoCard

/-- THE SECOND FORM's CARD OF 'curfewlaw.SafeMakes'. -/
def safeMakesUptoCard : Claim7 := { stood := { row := safeMakesUptoRow, standIns := [], harness := (true, "6ded79a93edf7ea88e8e691472ea4d05f8e53664f624f8ac2ad1be492a9538ea"), looks := false }, kinds := [], alts := [], laidByText := true, laidKinds := [.data], laidTests := true, laidLooks := .later }
def SafeMakesUptoCardSaid : Prop := Claim7.holds Tryd.pinned (.plain (OpenSpec.upto safeMakesSpec)) safeMakesUptoCard

/-- THE SECOND FORM's CARD OF 'curfewlaw.ModuleEncodes'. -/
def moduleEncodesUptoCard : Claim7 := { stood := { row := moduleEncodesUptoRow, standIns := [], harness := (true, "6ded79a93edf7ea88e8e691472ea4d05f8e53664f624f8ac2ad1be492a9538ea"), looks := false }, kinds := [], alts := [], laidByText := true, laidKinds := [.data], laidTests := true, laidLooks := .later }
def ModuleEncodesUptoCardSaid : Prop := Claim7.holds Tryd.pinned (.plain (OpenSpec.upto moduleEncodesSpec)) moduleEncodesUptoCard
end Rows
end Go.Proofs.YtdjamdbamkhblaaDoor
