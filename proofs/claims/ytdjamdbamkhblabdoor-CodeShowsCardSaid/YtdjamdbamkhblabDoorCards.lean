/-
  DERIVED. GIVEN WITH THE SEED: THE CARDS: each row of YtdjamdbamkhblabDoorRows.lean that lists a variable, with what it lists TIED to the program's text (the seventh form; the later family's looks); each row that meets fmt, with fmt's text TOLD by the authors' own Lean function (tested against real Go, not proved from fmt's source: count such statements apart). THE CARD IS WHAT COUNTS. Prove the row's statement (the work); the ties are given (YtdjamdbamkhblabDoorTie.lean); close each card by the builder's one call (the guide's Derived/Test/ToyasCard.lean, 'card_holds'). Laid BY PROGRAM, IN A SANDBOX (cutbox-door.mjs). By AI agents, Wed Nov 11 2026. No macro, syntax, notation, axiom, sorry.
-/
import Derived.Test.YtdjamdbamkhblabDoorRows
import GoSem.ClaimSeven
namespace Go.Proofs.YtdjamdbamkhblabDoor
namespace Rows

/-- THE TIED CARD OF 'curfewtop.TopNever'. -/
def topNeverCard : Claim7 := { stood := { row := topNeverRow, standIns := [], harness := (true, "fbaf6345df3bfb8a0106cd6d2aa109a675534b95ae2e972f3a076a46e6923503"), looks := false }, kinds := [], alts := [], laidByText := true, laidKinds := [.data], laidTests := true, laidLooks := .later }
def TopNeverCardSaid : Prop := Claim7.holds Tryd.pinned (.plain (OpenSpec.ofChange topNeverSpec)) topNeverCard

/-- THE TIED CARD OF 'curfewkeep.MadeSafe'. -/
def madeSafeCard : Claim7 := { stood := { row := madeSafeRow, standIns := [], harness := (true, "fbaf6345df3bfb8a0106cd6d2aa109a675534b95ae2e972f3a076a46e6923503"), looks := false }, kinds := [], alts := [], laidByText := true, laidKinds := [.data], laidTests := true, laidLooks := .later }
def MadeSafeCardSaid : Prop := Claim7.holds Tryd.pinned (.plain (OpenSpec.ofChange madeSafeSpec)) madeSafeCard

/-- THE TIED CARD OF 'curfewlaw.ModuleDecodes'. -/
def moduleDecodesCard : Claim7 := { stood := { row := moduleDecodesRow, standIns := [], harness := (true, "fbaf6345df3bfb8a0106cd6d2aa109a675534b95ae2e972f3a076a46e6923503"), looks := false }, kinds := [], alts := [], laidByText := true, laidKinds := [.data], laidTests := true, laidLooks := .later }
def ModuleDecodesCardSaid : Prop := Claim7.holds Tryd.pinned (.plain (OpenSpec.ofChange moduleDecodesSpec)) moduleDecodesCard

/-- THE TIED CARD OF 'curfewlaw.KernChecks'. -/
def kernChecksCard : Claim7 := { stood := { row := kernChecksRow, standIns := [], harness := (true, "fbaf6345df3bfb8a0106cd6d2aa109a675534b95ae2e972f3a076a46e6923503"), looks := false }, kinds := [], alts := [], laidByText := true, laidKinds := [.data], laidTests := true, laidLooks := .later }
def KernChecksCardSaid : Prop := Claim7.holds Tryd.pinned (.plain (OpenSpec.ofChange kernChecksSpec)) kernChecksCard

/-- THE TIED CARD OF 'curfewtop.TopRegion'. -/
def topRegionCard : Claim7 := { stood := { row := topRegionRow, standIns := [], harness := (true, "fbaf6345df3bfb8a0106cd6d2aa109a675534b95ae2e972f3a076a46e6923503"), looks := false }, kinds := [], alts := [], laidByText := true, laidKinds := [.data], laidTests := true, laidLooks := .later }
def TopRegionCardSaid : Prop := Claim7.holds Tryd.pinned (.plain (OpenSpec.ofChange topRegionSpec)) topRegionCard

/-- THE TIED CARD OF 'curfewlaw.CpuRuns'. -/
def cpuRunsCard : Claim7 := { stood := { row := cpuRunsRow, standIns := [], harness := (true, "fbaf6345df3bfb8a0106cd6d2aa109a675534b95ae2e972f3a076a46e6923503"), looks := false }, kinds := [], alts := [], laidByText := true, laidKinds := [.data], laidTests := true, laidLooks := .later }
def CpuRunsCardSaid : Prop := Claim7.holds Tryd.pinned (.plain (OpenSpec.ofChange cpuRunsSpec)) cpuRunsCard

/-- THE TIED CARD OF 'curfewkeep.RunsCount'. -/
def runsCountCard : Claim7 := { stood := { row := runsCountRow, standIns := [], harness := (true, "fbaf6345df3bfb8a0106cd6d2aa109a675534b95ae2e972f3a076a46e6923503"), looks := false }, kinds := [], alts := [], laidByText := true, laidKinds := [.data], laidTests := true, laidLooks := .later }
def RunsCountCardSaid : Prop := Claim7.holds Tryd.pinned (.plain (OpenSpec.ofChange runsCountSpec)) runsCountCard

/-- THE TIED CARD OF 'curfewkeep.RunsReckon'. -/
def runsReckonCard : Claim7 := { stood := { row := runsReckonRow, standIns := [], harness := (true, "fbaf6345df3bfb8a0106cd6d2aa109a675534b95ae2e972f3a076a46e6923503"), looks := false }, kinds := [], alts := [], laidByText := true, laidKinds := [.data], laidTests := true, laidLooks := .later }
def RunsReckonCardSaid : Prop := Claim7.holds Tryd.pinned (.plain (OpenSpec.ofChange runsReckonSpec)) runsReckonCard

/-- THE TIED CARD OF 'curfewkeep.RunsCall'. -/
def runsCallCard : Claim7 := { stood := { row := runsCallRow, standIns := [], harness := (true, "fbaf6345df3bfb8a0106cd6d2aa109a675534b95ae2e972f3a076a46e6923503"), looks := false }, kinds := [], alts := [], laidByText := true, laidKinds := [.data], laidTests := true, laidLooks := .later }
def RunsCallCardSaid : Prop := Claim7.holds Tryd.pinned (.plain (OpenSpec.ofChange runsCallSpec)) runsCallCard

/-- THE TIED CARD OF 'curfewkeep.ModulesBack'. -/
def modulesBackCard : Claim7 := { stood := { row := modulesBackRow, standIns := [], harness := (true, "fbaf6345df3bfb8a0106cd6d2aa109a675534b95ae2e972f3a076a46e6923503"), looks := false }, kinds := [], alts := [], laidByText := true, laidKinds := [.data], laidTests := true, laidLooks := .later }
def ModulesBackCardSaid : Prop := Claim7.holds Tryd.pinned (.plain (OpenSpec.ofChange modulesBackSpec)) modulesBackCard

/-- THE TIED CARD OF 'curfewlaw.CodeShows'. -/
def codeShowsCard : Claim7 := { stood := { row := codeShowsRow, standIns := [], harness := (true, "fbaf6345df3bfb8a0106cd6d2aa109a675534b95ae2e972f3a076a46e6923503"), looks := false }, kinds := [], alts := [], laidByText := true, laidKinds := [.data, .data, .data, .data, .widerDeep], laidTests := true, laidLooks := .later }
def CodeShowsCardSaid : Prop := Claim7.holds Tryd.pinned (.plain (OpenSpec.ofChange codeShowsSpec)) codeShowsCard

/-- THE SECOND FORM's CARD OF 'curfewtop.TopNever'. -/
def topNeverUptoCard : Claim7 := { stood := { row := topNeverUptoRow, standIns := [], harness := (true, "fbaf6345df3bfb8a0106cd6d2aa109a675534b95ae2e972f3a076a46e6923503"), looks := false }, kinds := [], alts := [], laidByText := true, laidKinds := [.data], laidTests := true, laidLooks := .later }
def TopNeverUptoCardSaid : Prop := Claim7.holds Tryd.pinned (.plain (OpenSpec.upto topNeverSpec)) topNeverUptoCard

/-- THE SECOND FORM's CARD OF 'curfewkeep.MadeSafe'. -/
def madeSafeUptoCard : Claim7 := { stood := { row := madeSafeUptoRow, standIns := [], harness := (true, "fbaf6345df3bfb8a0106cd6d2aa109a675534b95ae2e972f3a076a46e6923503"), looks := false }, kinds := [], alts := [], laidByText := true, laidKinds := [.data], laidTests := true, laidLooks := .later }
def MadeSafeUptoCardSaid : Prop := Claim7.holds Tryd.pinned (.plain (OpenSpec.upto madeSafeSpec)) madeSafeUptoCard

/-- THE SECOND FORM's CARD OF 'curfewlaw.ModuleDecodes'. -/
def moduleDecodesUptoCard : Claim7 := { stood := { row := moduleDecodesUptoRow, standIns := [], harness := (true, "fbaf6345df3bfb8a0106cd6d2aa109a675534b95ae2e972f3a076a46e6923503"), looks := false }, kinds := [], alts := [], laidByText := true, laidKinds := [.data], laidTests := true, laidLooks := .later }
def ModuleDecodesUptoCardSaid : Prop := Claim7.holds Tryd.pinned (.plain (OpenSpec.upto moduleDecodesSpec)) moduleDecodesUptoCard

/-- THE SECOND FORM's CARD OF 'curfewlaw.KernChecks'. -/
def kernChecksUptoCard : Claim7 := { stood := { row := kernChecksUptoRow, standIns := [], harness := (true, "fbaf6345df3bfb8a0106cd6d2aa109a675534b95ae2e972f3a076a46e6923503"), looks := false }, kinds := [], alts := [], laidByText := true, laidKinds := [.data], laidTests := true, laidLooks := .later }
def KernChecksUptoCardSaid : Prop := Claim7.holds Tryd.pinned (.plain (OpenSpec.upto kernChecksSpec)) kernChecksUptoCard

/-- THE SECOND FORM's CARD OF 'curfewtop.TopRegion'. -/
def topRegionUptoCard : Claim7 := { stood := { row := topRegionUptoRow, standIns := [], harness := (true, "fbaf6345df3bfb8a0106cd6d2aa109a675534b95ae2e972f3a076a46e6923503"), looks := false }, kinds := [], alts := [], laidByText := true, laidKinds := [.data], laidTests := true, laidLooks := .later }
def TopRegionUptoCardSaid : Prop := Claim7.holds Tryd.pinned (.plain (OpenSpec.upto topRegionSpec)) topRegionUptoCard

/-- THE SECOND FORM's CARD OF 'curfewlaw.CpuRuns'. -/
def cpuRunsUptoCard : Claim7 := { stood := { row := cpuRunsUptoRow, standIns := [], harness := (true, "fbaf6345df3bfb8a0106cd6d2aa109a675534b95ae2e972f3a076a46e6923503"), looks := false }, kinds := [], alts := [], laidByText := true, laidKinds := [.data], laidTests := true, laidLooks := .later }
def CpuRunsUptoCardSaid : Prop := Claim7.holds Tryd.pinned (.plain (OpenSpec.upto cpuRunsSpec)) cpuRunsUptoCard

/-- THE SECOND FORM's CARD OF 'curfewkeep.RunsCount'. -/
def runsCountUptoCard : Claim7 := { stood := { row := runsCountUptoRow, standIns := [], harness := (true, "fbaf6345df3bfb8a0106cd6d2aa109a675534b95ae2e972f3a076a46e6923503"), looks := false }, kinds := [], alts := [], laidByText := true, laidKinds := [.data], laidTests := true, laidLooks := .later }
def RunsCountUptoCardSaid : Prop := Claim7.holds Tryd.pinned (.plain (OpenSpec.upto runsCountSpec)) runsCountUptoCard

/-- THE SECOND FORM's CARD OF 'curfewkeep.RunsReckon'. -/
def runsReckonUptoCard : Claim7 := { stood := { row := runsReckonUptoRow, standIns := [], harness := (true, "fbaf6345df3bfb8a0106cd6d2aa109a675534b95ae2e972f3a076a46e6923503"), looks := false }, kinds := [], alts := [], laidByText := true, laidKinds := [.data], laidTests := true, laidLooks := .later }
def RunsReckonUptoCardSaid : Prop := Claim7.holds Tryd.pinned (.plain (OpenSpec.upto runsReckonSpec)) runsReckonUptoCard

/-- THE SECOND FORM's CARD OF 'curfewkeep.RunsCall'. -/
def runsCallUptoCard : Claim7 := { stood := { row := runsCallUptoRow, standIns := [], harness := (true, "fbaf6345df3bfb8a0106cd6d2aa109a675534b95ae2e972f3a076a46e6923503"), looks := false }, kinds := [], alts := [], laidByText := true, laidKinds := [.data], laidTests := true, laidLooks := .later }
def RunsCallUptoCardSaid : Prop := Claim7.holds Tryd.pinned (.plain (OpenSpec.upto runsCallSpec)) runsCallUptoCard

/-- THE SECOND FORM's CARD OF 'curfewkeep.ModulesBack'. -/
def modulesBackUptoCard : Claim7 := { stood := { row := modulesBackUptoRow, standIns := [], harness := (true, "fbaf6345df3bfb8a0106cd6d2aa109a675534b95ae2e972f3a076a46e6923503"), looks := false }, kinds := [], alts := [], laidByText := true, laidKinds := [.data], laidTests := true, laidLooks := .later }
def ModulesBackUptoCardSaid : Prop := Claim7.holds Tryd.pinned (.plain (OpenSpec.upto modulesBackSpec)) modulesBackUptoCard

/-- THE SECOND FORM's CARD OF 'curfewlaw.CodeShows'. -/
def codeShowsUptoCard : Claim7 := { stood := { row := codeShowsUptoRow, standIns := [], harness := (true, "fbaf6345df3bfb8a0106cd6d2aa109a675534b95ae2e972f3a076a46e6923503"), looks := false }, kinds := [], alts := [], laidByText := true, laidKinds := [.data, .data, .data, .data, .widerDeep], laidTests := true, laidLooks := .later }
def CodeShowsUptoCardSaid : Prop := Claim7.holds Tryd.pinned (.plain (OpenSpec.upto codeShowsSpec)) codeShowsUptoCard
end Rows
end Go.Proofs.YtdjamdbamkhblabDoor
