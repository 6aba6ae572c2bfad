/-
  DERIVED. GIVEN WITH THE SEED: THE CARDS: each row of YtdjamdbamkhblacDoorRows.lean that lists a variable, with what it lists TIED to the program's text (the seventh form; the later family's looks); each row that meets fmt, with fmt's text TOLD by the authors' own Lean function (tested against real Go, not proved from fmt's source: count such statements apart). THE CARD IS WHAT COUNTS. Prove the row's statement (the work); the ties are given (YtdjamdbamkhblacDoorTie.lean); close each card by the builder's one call (the guide's Derived/Test/ToyasCard.lean, 'card_holds'). Laid BY PROGRAM, IN A SANDBOX (cutbox-door.mjs). By AI agents, Wed Nov 11 2026. No macro, syntax, notation, axiom, sorry.
-/
import Derived.Test.YtdjamdbamkhblacDoorRows
import GoSem.ClaimSeven
namespace Go.Proofs.YtdjamdbamkhblacDoor
namespace Rows

/-- THE TIED CARD OF 'curfewkeep.FilesBack'. -/
def filesBackCard : Claim7 := { stood := { row := filesBackRow, standIns := [], harness := (true, "3257e19090d1b1711072f76e063cc85a9ce8d8111c5215458f2ec99566ee0d2b"), looks := true }, kinds := [], alts := [], laidByText := true, laidKinds := [.data], laidTests := true, laidLooks := .later }
def FilesBackCardSaid : Prop := Claim7.holds Tryd.pinned (.plain (OpenSpec.ofChange filesBackSpec)) filesBackCard

/-- THE TIED CARD OF 'curfewkeep.PipesFlow'. -/
def pipesFlowCard : Claim7 := { stood := { row := pipesFlowRow, standIns := [], harness := (true, "3257e19090d1b1711072f76e063cc85a9ce8d8111c5215458f2ec99566ee0d2b"), looks := true }, kinds := [], alts := [], laidByText := true, laidKinds := [.data], laidTests := true, laidLooks := .later }
def PipesFlowCardSaid : Prop := Claim7.holds Tryd.pinned (.plain (OpenSpec.ofChange pipesFlowSpec)) pipesFlowCard

/-- THE TIED CARD OF 'curfewkeep.KernelsGood'. -/
def kernelsGoodCard : Claim7 := { stood := { row := kernelsGoodRow, standIns := [], harness := (true, "3257e19090d1b1711072f76e063cc85a9ce8d8111c5215458f2ec99566ee0d2b"), looks := true }, kinds := [], alts := [], laidByText := true, laidKinds := [.data], laidTests := true, laidLooks := .later }
def KernelsGoodCardSaid : Prop := Claim7.holds Tryd.pinned (.plain (OpenSpec.ofChange kernelsGoodSpec)) kernelsGoodCard

/-- THE TIED CARD OF 'curfewlaw.CodeReads'. -/
def codeReadsCard : Claim7 := { stood := { row := codeReadsRow, standIns := [], harness := (true, "3257e19090d1b1711072f76e063cc85a9ce8d8111c5215458f2ec99566ee0d2b"), looks := true }, kinds := [], alts := [], laidByText := true, laidKinds := [.data, .data, .data, .data, .sentinel, .sentinel, .data, .widerDeep, .pinned], laidTests := true, laidLooks := .later }
def CodeReadsCardSaid : Prop := Claim7.holds Tryd.pinned (.plain (OpenSpec.ofChange codeReadsSpec)) codeReadsCard

/-- THE TIED CARD OF 'curfewkeep.CodesBack'. -/
def codesBackCard : Claim7 := { stood := { row := codesBackRow, standIns := [], harness := (true, "3257e19090d1b1711072f76e063cc85a9ce8d8111c5215458f2ec99566ee0d2b"), looks := true }, kinds := [], alts := [], laidByText := true, laidKinds := [.data, .data, .data, .data, .sentinel, .sentinel, .data, .widerDeep, .pinned], laidTests := true, laidLooks := .later }
def CodesBackCardSaid : Prop := Claim7.holds Tryd.pinned (.plain (OpenSpec.ofChange codesBackSpec)) codesBackCard

/-- THE TIED CARD OF 'curfewkeep.CodesBad'. -/
def codesBadCard : Claim7 := { stood := { row := codesBadRow, standIns := [], harness := (true, "3257e19090d1b1711072f76e063cc85a9ce8d8111c5215458f2ec99566ee0d2b"), looks := true }, kinds := [], alts := [], laidByText := true, laidKinds := [.data, .data, .data, .data, .sentinel, .sentinel, .data, .widerDeep, .pinned], laidTests := true, laidLooks := .later }
def CodesBadCardSaid : Prop := Claim7.holds Tryd.pinned (.plain (OpenSpec.ofChange codesBadSpec)) codesBadCard

/-- THE TIED CARD OF 'curfewtop.TopApart'. -/
def topApartCard : Claim7 := { stood := { row := topApartRow, standIns := [], harness := (true, "3257e19090d1b1711072f76e063cc85a9ce8d8111c5215458f2ec99566ee0d2b"), looks := true }, kinds := [], alts := [], laidByText := true, laidKinds := [.data], laidTests := true, laidLooks := .later }
def TopApartCardSaid : Prop := Claim7.holds Tryd.pinned (.plain (OpenSpec.ofChange topApartSpec)) topApartCard

/-- THE TIED CARD OF 'curfewtop.TopTwice'. -/
def topTwiceCard : Claim7 := { stood := { row := topTwiceRow, standIns := [], harness := (true, "3257e19090d1b1711072f76e063cc85a9ce8d8111c5215458f2ec99566ee0d2b"), looks := true }, kinds := [], alts := [], laidByText := true, laidKinds := [.data], laidTests := true, laidLooks := .later }
def TopTwiceCardSaid : Prop := Claim7.holds Tryd.pinned (.plain (OpenSpec.ofChange topTwiceSpec)) topTwiceCard

/-- THE TIED CARD OF 'curfewtop.TopQuiet'. -/
def topQuietCard : Claim7 := { stood := { row := topQuietRow, standIns := [], harness := (true, "3257e19090d1b1711072f76e063cc85a9ce8d8111c5215458f2ec99566ee0d2b"), looks := true }, kinds := [], alts := [], laidByText := true, laidKinds := [.data], laidTests := true, laidLooks := .later }
def TopQuietCardSaid : Prop := Claim7.holds Tryd.pinned (.plain (OpenSpec.ofChange topQuietSpec)) topQuietCard

/-- THE SECOND FORM's CARD OF 'curfewkeep.FilesBack'. -/
def filesBackUptoCard : Claim7 := { stood := { row := filesBackUptoRow, standIns := [], harness := (true, "3257e19090d1b1711072f76e063cc85a9ce8d8111c5215458f2ec99566ee0d2b"), looks := true }, kinds := [], alts := [], laidByText := true, laidKinds := [.data], laidTests := true, laidLooks := .later }
def FilesBackUptoCardSaid : Prop := Claim7.holds Tryd.pinned (.plain (OpenSpec.upto filesBackSpec)) filesBackUptoCard

/-- THE SECOND FORM's CARD OF 'curfewkeep.PipesFlow'. -/
def pipesFlowUptoCard : Claim7 := { stood := { row := pipesFlowUptoRow, standIns := [], harness := (true, "3257e19090d1b1711072f76e063cc85a9ce8d8111c5215458f2ec99566ee0d2b"), looks := true }, kinds := [], alts := [], laidByText := true, laidKinds := [.data], laidTests := true, laidLooks := .later }
def PipesFlowUptoCardSaid : Prop := Claim7.holds Tryd.pinned (.plain (OpenSpec.upto pipesFlowSpec)) pipesFlowUptoCard

/-- THE SECOND FORM's CARD OF 'curfewkeep.KernelsGood'. -/
def kernelsGoodUptoCard : Claim7 := { stood := { row := kernelsGoodUptoRow, standIns := [], harness := (true, "3257e19090d1b1711072f76e063cc85a9ce8d8111c5215458f2ec99566ee0d2b"), looks := true }, kinds := [], alts := [], laidByText := true, laidKinds := [.data], laidTests := true, laidLooks := .later }
def KernelsGoodUptoCardSaid : Prop := Claim7.holds Tryd.pinned (.plain (OpenSpec.upto kernelsGoodSpec)) kernelsGoodUptoCard

/-- THE SECOND FORM's CARD OF 'curfewlaw.CodeReads'. -/
def codeReadsUptoCard : Claim7 := { stood := { row := codeReadsUptoRow, standIns := [], harness := (true, "3257e19090d1b1711072f76e063cc85a9ce8d8111c5215458f2ec99566ee0d2b"), looks := true }, kinds := [], alts := [], laidByText := true, laidKinds := [.data, .data, .data, .data, .sentinel, .sentinel, .data, .widerDeep, .pinned], laidTests := true, laidLooks := .later }
def CodeReadsUptoCardSaid : Prop := Claim7.holds Tryd.pinned (.plain (OpenSpec.upto codeReadsSpec)) codeReadsUptoCard

/-- THE SECOND FORM's CARD OF 'curfewkeep.CodesBack'. -/
def codesBackUptoCard : Claim7 := { stood := { row := codesBackUptoRow, standIns := [], harness := (true, "3257e19090d1b1711072f76e063cc85a9ce8d8111c5215458f2ec99566ee0d2b"), looks := true }, kinds := [], alts := [], laidByText := true, laidKinds := [.data, .data, .data, .data, .sentinel, .sentinel, .data, .widerDeep, .pinned], laidTests := true, laidLooks := .later }
def CodesBackUptoCardSaid : Prop := Claim7.holds Tryd.pinned (.plain (OpenSpec.upto codesBackSpec)) codesBackUptoCard

/-- THE SECOND FORM's CARD OF 'curfewkeep.CodesBad'. -/
def codesBadUptoCard : Claim7 := { stood := { row := codesBadUptoRow, standIns := [], harness := (true, "3257e19090d1b1711072f76e063cc85a9ce8d8111c5215458f2ec99566ee0d2b"), looks := true }, kinds := [], alts := [], laidByText := true, laidKinds := [.data, .data, .data, .data, .sentinel, .sentinel, .data, .widerDeep, .pinned], laidTests := true, laidLooks := .later }
def CodesBadUptoCardSaid : Prop := Claim7.holds Tryd.pinned (.plain (OpenSpec.upto codesBadSpec)) codesBadUptoCard

/-- THE SECOND FORM's CARD OF 'curfewtop.TopApart'. -/
def topApartUptoCard : Claim7 := { stood := { row := topApartUptoRow, standIns := [], harness := (true, "3257e19090d1b1711072f76e063cc85a9ce8d8111c5215458f2ec99566ee0d2b"), looks := true }, kinds := [], alts := [], laidByText := true, laidKinds := [.data], laidTests := true, laidLooks := .later }
def TopApartUptoCardSaid : Prop := Claim7.holds Tryd.pinned (.plain (OpenSpec.upto topApartSpec)) topApartUptoCard

/-- THE SECOND FORM's CARD OF 'curfewtop.TopTwice'. -/
def topTwiceUptoCard : Claim7 := { stood := { row := topTwiceUptoRow, standIns := [], harness := (true, "3257e19090d1b1711072f76e063cc85a9ce8d8111c5215458f2ec99566ee0d2b"), looks := true }, kinds := [], alts := [], laidByText := true, laidKinds := [.data], laidTests := true, laidLooks := .later }
def TopTwiceUptoCardSaid : Prop := Claim7.holds Tryd.pinned (.plain (OpenSpec.upto topTwiceSpec)) topTwiceUptoCard

/-- THE SECOND FORM's CARD OF 'curfewtop.TopQuiet'. -/
def topQuietUptoCard : Claim7 := { stood := { row := topQuietUptoRow, standIns := [], harness := (true, "3257e19090d1b1711072f76e063cc85a9ce8d8111c5215458f2ec99566ee0d2b"), looks := true }, kinds := [], alts := [], laidByText := true, laidKinds := [.data], laidTests := true, laidLooks := .later }
def TopQuietUptoCardSaid : Prop := Claim7.holds Tryd.pinned (.plain (OpenSpec.upto topQuietSpec)) topQuietUptoCard
end Rows
end Go.Proofs.YtdjamdbamkhblacDoor
