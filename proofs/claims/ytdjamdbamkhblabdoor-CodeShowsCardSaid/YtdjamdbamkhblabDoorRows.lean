/-
  NARROWER THAN 'FOR EVERY INPUT', by the rows' own cells (each row's printed sentence says how): TopNever: laid · MadeSafe: laid · ModuleDecodes: laid · KernChecks: laid · TopRegion: laid · CpuRuns: laid · RunsCount: laid · RunsReckon: laid · RunsCall: laid · ModulesBack: laid · CodeShows: laid.
  DERIVED. THE GIVEN ROWS OF THIS SEAT. 11 by the template 'for every input the law returns true; each argument reads behind the call as it read before'; 0 by the template 'total and deterministic' (their statements: YtdjamdbamkhblabDoorTotals.lean).
  GIVEN WITH THE SEED: the statements are not yours to turn. If you find one false, say at which input.
  Laid BY PROGRAM, IN A SANDBOX (cutbox-rows.mjs): the forced cells as the released guide's own fill.sh prints them over the translation ac5732adc8453e99… (all of the seat's roots in one cut). By AI agents, Wed Nov 11 2026. No macro, syntax, notation, axiom, sorry.
-/
import Derived.Test.YtdjamdbamkhblabDoorChecked
import GoSem.Claim
import GoSem.ClaimJoined
import GoSem.ClaimMapViews
import Derived.JoinedTies
import Derived.KernelRfl
namespace Go.Proofs.YtdjamdbamkhblabDoor
/- THE CELL 'sum', in the pinned program and in every row, IS THE sha256 OF THE DUMP (.gsa) THAT YtdjamdbamkhblabDoorProg.lean LOADS. Nothing in Lean hashes anything: it is a label: what it is worth is what the hold of that sum in a sandbox is worth. -/
noncomputable def Tryd.pinned : Pinned := { name := "ytdjamdbamkhblabdoor", sum := "ac5732adc8453e995398f07892df11b8dd494f3bae90ceb304cb5afe8320ff9e", checked := Tryd.checked }
namespace Rows
def none {H : Type} : Left H := { results := [], args := [] }

/- WHAT THE LISTED PACKAGE-LEVEL VARIABLES READ AS WHEN THE CALL BEGINS. Each datum BY PROGRAM (the guide's laid-datum.mjs) off the statement by which the dump's own 'gosem.cut.vars' lays the variable. In a bare row this is a premise. The card (YtdjamdbamkhblabDoorCards.lean) ties it to the program's text. -/
def laid_curfew_code_shapes {H : Type} : DataW H := .agg [.lit (.string []), .lit (.string [114, 45, 119]), .lit (.string [114, 114, 114]), .lit (.string [114, 114, 114]), .lit (.string [114, 114, 114]), .lit (.string [114, 114, 114]), .lit (.string [114, 114, 114]), .lit (.string [114, 114, 114]), .lit (.string [114, 114, 45]), .lit (.string [114, 114, 45]), .lit (.string [45, 45, 112]), .lit (.string [114, 45, 112]), .lit (.string [45, 45, 112]), .lit (.string [45, 45, 45]), .lit (.string [114, 45, 45]), .lit (.string [45, 45, 45])]
def laid_math_bits_deBruijn32tab {H : Type} : DataW H := .agg [.lit (.int .u8 0), .lit (.int .u8 1), .lit (.int .u8 28), .lit (.int .u8 2), .lit (.int .u8 29), .lit (.int .u8 14), .lit (.int .u8 24), .lit (.int .u8 3), .lit (.int .u8 30), .lit (.int .u8 22), .lit (.int .u8 20), .lit (.int .u8 15), .lit (.int .u8 25), .lit (.int .u8 17), .lit (.int .u8 4), .lit (.int .u8 8), .lit (.int .u8 31), .lit (.int .u8 27), .lit (.int .u8 13), .lit (.int .u8 23), .lit (.int .u8 21), .lit (.int .u8 19), .lit (.int .u8 16), .lit (.int .u8 7), .lit (.int .u8 26), .lit (.int .u8 12), .lit (.int .u8 18), .lit (.int .u8 6), .lit (.int .u8 11), .lit (.int .u8 5), .lit (.int .u8 10), .lit (.int .u8 9)]
def laid_math_bits_deBruijn64tab {H : Type} : DataW H := .agg [.lit (.int .u8 0), .lit (.int .u8 1), .lit (.int .u8 56), .lit (.int .u8 2), .lit (.int .u8 57), .lit (.int .u8 49), .lit (.int .u8 28), .lit (.int .u8 3), .lit (.int .u8 61), .lit (.int .u8 58), .lit (.int .u8 42), .lit (.int .u8 50), .lit (.int .u8 38), .lit (.int .u8 29), .lit (.int .u8 17), .lit (.int .u8 4), .lit (.int .u8 62), .lit (.int .u8 47), .lit (.int .u8 59), .lit (.int .u8 36), .lit (.int .u8 45), .lit (.int .u8 43), .lit (.int .u8 51), .lit (.int .u8 22), .lit (.int .u8 53), .lit (.int .u8 39), .lit (.int .u8 33), .lit (.int .u8 30), .lit (.int .u8 24), .lit (.int .u8 18), .lit (.int .u8 12), .lit (.int .u8 5), .lit (.int .u8 63), .lit (.int .u8 55), .lit (.int .u8 48), .lit (.int .u8 27), .lit (.int .u8 60), .lit (.int .u8 41), .lit (.int .u8 37), .lit (.int .u8 16), .lit (.int .u8 46), .lit (.int .u8 35), .lit (.int .u8 44), .lit (.int .u8 21), .lit (.int .u8 52), .lit (.int .u8 32), .lit (.int .u8 23), .lit (.int .u8 11), .lit (.int .u8 54), .lit (.int .u8 26), .lit (.int .u8 40), .lit (.int .u8 15), .lit (.int .u8 34), .lit (.int .u8 20), .lit (.int .u8 31), .lit (.int .u8 10), .lit (.int .u8 25), .lit (.int .u8 14), .lit (.int .u8 19), .lit (.int .u8 9), .lit (.int .u8 13), .lit (.int .u8 8), .lit (.int .u8 7), .lit (.int .u8 6)]
def laid_internal_strconv_uint64pow10 {H : Type} : DataW H := .agg [.lit (.int .u64 1), .lit (.int .u64 10), .lit (.int .u64 100), .lit (.int .u64 1000), .lit (.int .u64 10000), .lit (.int .u64 100000), .lit (.int .u64 1000000), .lit (.int .u64 10000000), .lit (.int .u64 100000000), .lit (.int .u64 1000000000), .lit (.int .u64 10000000000), .lit (.int .u64 100000000000), .lit (.int .u64 1000000000000), .lit (.int .u64 10000000000000), .lit (.int .u64 100000000000000), .lit (.int .u64 1000000000000000), .lit (.int .u64 10000000000000000), .lit (.int .u64 100000000000000000), .lit (.int .u64 1000000000000000000), .lit (.int .u64 10000000000000000000)]
def laid_curfew_code_names {H : Type} : DataW H := .agg [.lit (.string []), .lit (.string [108, 105]), .lit (.string [97, 100, 100]), .lit (.string [115, 117, 98]), .lit (.string [97, 110, 100]), .lit (.string [111, 114]), .lit (.string [120, 111, 114]), .lit (.string [108, 116]), .lit (.string [108, 100]), .lit (.string [115, 116]), .lit (.string [106, 109, 112]), .lit (.string [106, 122]), .lit (.string [99, 97, 108, 108]), .lit (.string [114, 101, 116]), .lit (.string [116, 101, 108, 108]), .lit (.string [104, 97, 108, 116])]

/-- 'curfewtop.TopNever': WHATEVER THE INPUT: true; the input reads as it did. -/
def topNeverSpec : ChangeSpec := { name := "topNever", fn := fun _ => fun
  | [d1, d2, d3, d4] => { results := [.lit (.bool true)], args := [d1, d2, d3, d4] }
  | _ => none }
def topNeverRow : OpenClaim := { program := "ytdjamdbamkhblabdoor", sum := "ac5732adc8453e995398f07892df11b8dd494f3bae90ceb304cb5afe8320ff9e", func := "curfew/curfewtop.TopNever", spec := "topNever", unfollowed := true, recurses := true, named := ["curfew/code.shapes"], apart := false, laid := [("curfew/code.shapes", laid_curfew_code_shapes)] }
def TopNeverSaid : Prop := topNeverRow.holds Tryd.pinned (OpenSpec.ofChange topNeverSpec)

/-- ITS FALSE NEIGHBOUR: 'it returns false'. Refute it at one input. -/
def topNeverWrong : ChangeSpec := { name := "topNever", fn := fun _ => fun
  | [d1, d2, d3, d4] => { results := [.lit (.bool false)], args := [d1, d2, d3, d4] }
  | _ => none }
def TopNeverWrongFalsely : Prop := topNeverRow.holds Tryd.pinned (OpenSpec.ofChange topNeverWrong)

/-- 'curfewkeep.MadeSafe': WHATEVER THE INPUT: true; the input reads as it did. -/
def madeSafeSpec : ChangeSpec := { name := "madeSafe", fn := fun _ => fun
  | [d1, d2] => { results := [.lit (.bool true)], args := [d1, d2] }
  | _ => none }
def madeSafeRow : OpenClaim := { program := "ytdjamdbamkhblabdoor", sum := "ac5732adc8453e995398f07892df11b8dd494f3bae90ceb304cb5afe8320ff9e", func := "curfew/curfewkeep.MadeSafe", spec := "madeSafe", unfollowed := true, recurses := true, named := ["curfew/code.shapes"], apart := false, laid := [("curfew/code.shapes", laid_curfew_code_shapes)] }
def MadeSafeSaid : Prop := madeSafeRow.holds Tryd.pinned (OpenSpec.ofChange madeSafeSpec)

/-- ITS FALSE NEIGHBOUR: 'it returns false'. Refute it at one input. -/
def madeSafeWrong : ChangeSpec := { name := "madeSafe", fn := fun _ => fun
  | [d1, d2] => { results := [.lit (.bool false)], args := [d1, d2] }
  | _ => none }
def MadeSafeWrongFalsely : Prop := madeSafeRow.holds Tryd.pinned (OpenSpec.ofChange madeSafeWrong)

/-- 'curfewlaw.ModuleDecodes': WHATEVER THE INPUT: true; the input reads as it did. -/
def moduleDecodesSpec : ChangeSpec := { name := "moduleDecodes", fn := fun _ => fun
  | [d] => { results := [.lit (.bool true)], args := [d] }
  | _ => none }
def moduleDecodesRow : OpenClaim := { program := "ytdjamdbamkhblabdoor", sum := "ac5732adc8453e995398f07892df11b8dd494f3bae90ceb304cb5afe8320ff9e", func := "curfew/curfewlaw.ModuleDecodes", spec := "moduleDecodes", unfollowed := true, recurses := true, named := ["curfew/code.shapes"], apart := false, laid := [("curfew/code.shapes", laid_curfew_code_shapes)] }
def ModuleDecodesSaid : Prop := moduleDecodesRow.holds Tryd.pinned (OpenSpec.ofChange moduleDecodesSpec)

/-- ITS FALSE NEIGHBOUR: 'it returns false'. Refute it at one input. -/
def moduleDecodesWrong : ChangeSpec := { name := "moduleDecodes", fn := fun _ => fun
  | [d] => { results := [.lit (.bool false)], args := [d] }
  | _ => none }
def ModuleDecodesWrongFalsely : Prop := moduleDecodesRow.holds Tryd.pinned (OpenSpec.ofChange moduleDecodesWrong)

/-- 'curfewlaw.KernChecks': WHATEVER THE INPUT: true; the input reads as it did. -/
def kernChecksSpec : ChangeSpec := { name := "kernChecks", fn := fun _ => fun
  | [d] => { results := [.lit (.bool true)], args := [d] }
  | _ => none }
def kernChecksRow : OpenClaim := { program := "ytdjamdbamkhblabdoor", sum := "ac5732adc8453e995398f07892df11b8dd494f3bae90ceb304cb5afe8320ff9e", func := "curfew/curfewlaw.KernChecks", spec := "kernChecks", unfollowed := true, recurses := true, named := ["curfew/code.shapes"], apart := false, laid := [("curfew/code.shapes", laid_curfew_code_shapes)] }
def KernChecksSaid : Prop := kernChecksRow.holds Tryd.pinned (OpenSpec.ofChange kernChecksSpec)

/-- ITS FALSE NEIGHBOUR: 'it returns false'. Refute it at one input. -/
def kernChecksWrong : ChangeSpec := { name := "kernChecks", fn := fun _ => fun
  | [d] => { results := [.lit (.bool false)], args := [d] }
  | _ => none }
def KernChecksWrongFalsely : Prop := kernChecksRow.holds Tryd.pinned (OpenSpec.ofChange kernChecksWrong)

/-- 'curfewtop.TopRegion': WHATEVER THE INPUT: true; the input reads as it did. -/
def topRegionSpec : ChangeSpec := { name := "topRegion", fn := fun _ => fun
  | [d1, d2, d3, d4, d5, d6] => { results := [.lit (.bool true)], args := [d1, d2, d3, d4, d5, d6] }
  | _ => none }
def topRegionRow : OpenClaim := { program := "ytdjamdbamkhblabdoor", sum := "ac5732adc8453e995398f07892df11b8dd494f3bae90ceb304cb5afe8320ff9e", func := "curfew/curfewtop.TopRegion", spec := "topRegion", unfollowed := true, recurses := true, named := ["curfew/code.shapes"], apart := false, laid := [("curfew/code.shapes", laid_curfew_code_shapes)] }
def TopRegionSaid : Prop := topRegionRow.holds Tryd.pinned (OpenSpec.ofChange topRegionSpec)

/-- ITS FALSE NEIGHBOUR: 'it returns false'. Refute it at one input. -/
def topRegionWrong : ChangeSpec := { name := "topRegion", fn := fun _ => fun
  | [d1, d2, d3, d4, d5, d6] => { results := [.lit (.bool false)], args := [d1, d2, d3, d4, d5, d6] }
  | _ => none }
def TopRegionWrongFalsely : Prop := topRegionRow.holds Tryd.pinned (OpenSpec.ofChange topRegionWrong)

/-- 'curfewlaw.CpuRuns': WHATEVER THE INPUT: true; the input reads as it did. -/
def cpuRunsSpec : ChangeSpec := { name := "cpuRuns", fn := fun _ => fun
  | [d1, d2, d3, d4] => { results := [.lit (.bool true)], args := [d1, d2, d3, d4] }
  | _ => none }
def cpuRunsRow : OpenClaim := { program := "ytdjamdbamkhblabdoor", sum := "ac5732adc8453e995398f07892df11b8dd494f3bae90ceb304cb5afe8320ff9e", func := "curfew/curfewlaw.CpuRuns", spec := "cpuRuns", unfollowed := true, recurses := true, named := ["curfew/code.shapes"], apart := false, laid := [("curfew/code.shapes", laid_curfew_code_shapes)] }
def CpuRunsSaid : Prop := cpuRunsRow.holds Tryd.pinned (OpenSpec.ofChange cpuRunsSpec)

/-- ITS FALSE NEIGHBOUR: 'it returns false'. Refute it at one input. -/
def cpuRunsWrong : ChangeSpec := { name := "cpuRuns", fn := fun _ => fun
  | [d1, d2, d3, d4] => { results := [.lit (.bool false)], args := [d1, d2, d3, d4] }
  | _ => none }
def CpuRunsWrongFalsely : Prop := cpuRunsRow.holds Tryd.pinned (OpenSpec.ofChange cpuRunsWrong)

/-- 'curfewkeep.RunsCount': WHATEVER THE INPUT: true; the input reads as it did. -/
def runsCountSpec : ChangeSpec := { name := "runsCount", fn := fun _ => fun
  | [d1, d2] => { results := [.lit (.bool true)], args := [d1, d2] }
  | _ => none }
def runsCountRow : OpenClaim := { program := "ytdjamdbamkhblabdoor", sum := "ac5732adc8453e995398f07892df11b8dd494f3bae90ceb304cb5afe8320ff9e", func := "curfew/curfewkeep.RunsCount", spec := "runsCount", unfollowed := true, recurses := true, named := ["curfew/code.shapes"], apart := false, laid := [("curfew/code.shapes", laid_curfew_code_shapes)] }
def RunsCountSaid : Prop := runsCountRow.holds Tryd.pinned (OpenSpec.ofChange runsCountSpec)

/-- ITS FALSE NEIGHBOUR: 'it returns false'. Refute it at one input. -/
def runsCountWrong : ChangeSpec := { name := "runsCount", fn := fun _ => fun
  | [d1, d2] => { results := [.lit (.bool false)], args := [d1, d2] }
  | _ => none }
def RunsCountWrongFalsely : Prop := runsCountRow.holds Tryd.pinned (OpenSpec.ofChange runsCountWrong)

/-- 'curfewkeep.RunsReckon': WHATEVER THE INPUT: true; the input reads as it did. -/
def runsReckonSpec : ChangeSpec := { name := "runsReckon", fn := fun _ => fun
  | [d1, d2] => { results := [.lit (.bool true)], args := [d1, d2] }
  | _ => none }
def runsReckonRow : OpenClaim := { program := "ytdjamdbamkhblabdoor", sum := "ac5732adc8453e995398f07892df11b8dd494f3bae90ceb304cb5afe8320ff9e", func := "curfew/curfewkeep.RunsReckon", spec := "runsReckon", unfollowed := true, recurses := true, named := ["curfew/code.shapes"], apart := false, laid := [("curfew/code.shapes", laid_curfew_code_shapes)] }
def RunsReckonSaid : Prop := runsReckonRow.holds Tryd.pinned (OpenSpec.ofChange runsReckonSpec)

/-- ITS FALSE NEIGHBOUR: 'it returns false'. Refute it at one input. -/
def runsReckonWrong : ChangeSpec := { name := "runsReckon", fn := fun _ => fun
  | [d1, d2] => { results := [.lit (.bool false)], args := [d1, d2] }
  | _ => none }
def RunsReckonWrongFalsely : Prop := runsReckonRow.holds Tryd.pinned (OpenSpec.ofChange runsReckonWrong)

/-- 'curfewkeep.RunsCall': WHATEVER THE INPUT: true; the input reads as it did. -/
def runsCallSpec : ChangeSpec := { name := "runsCall", fn := fun _ => fun
  | [d] => { results := [.lit (.bool true)], args := [d] }
  | _ => none }
def runsCallRow : OpenClaim := { program := "ytdjamdbamkhblabdoor", sum := "ac5732adc8453e995398f07892df11b8dd494f3bae90ceb304cb5afe8320ff9e", func := "curfew/curfewkeep.RunsCall", spec := "runsCall", unfollowed := true, recurses := true, named := ["curfew/code.shapes"], apart := false, laid := [("curfew/code.shapes", laid_curfew_code_shapes)] }
def RunsCallSaid : Prop := runsCallRow.holds Tryd.pinned (OpenSpec.ofChange runsCallSpec)

/-- ITS FALSE NEIGHBOUR: 'it returns false'. Refute it at one input. -/
def runsCallWrong : ChangeSpec := { name := "runsCall", fn := fun _ => fun
  | [d] => { results := [.lit (.bool false)], args := [d] }
  | _ => none }
def RunsCallWrongFalsely : Prop := runsCallRow.holds Tryd.pinned (OpenSpec.ofChange runsCallWrong)

/-- 'curfewkeep.ModulesBack': WHATEVER THE INPUT: true; the input reads as it did. -/
def modulesBackSpec : ChangeSpec := { name := "modulesBack", fn := fun _ => fun
  | [d1, d2, d3, d4] => { results := [.lit (.bool true)], args := [d1, d2, d3, d4] }
  | _ => none }
def modulesBackRow : OpenClaim := { program := "ytdjamdbamkhblabdoor", sum := "ac5732adc8453e995398f07892df11b8dd494f3bae90ceb304cb5afe8320ff9e", func := "curfew/curfewkeep.ModulesBack", spec := "modulesBack", unfollowed := true, recurses := true, named := ["curfew/code.shapes"], apart := false, laid := [("curfew/code.shapes", laid_curfew_code_shapes)] }
def ModulesBackSaid : Prop := modulesBackRow.holds Tryd.pinned (OpenSpec.ofChange modulesBackSpec)

/-- ITS FALSE NEIGHBOUR: 'it returns false'. Refute it at one input. -/
def modulesBackWrong : ChangeSpec := { name := "modulesBack", fn := fun _ => fun
  | [d1, d2, d3, d4] => { results := [.lit (.bool false)], args := [d1, d2, d3, d4] }
  | _ => none }
def ModulesBackWrongFalsely : Prop := modulesBackRow.holds Tryd.pinned (OpenSpec.ofChange modulesBackWrong)

/-- 'curfewlaw.CodeShows': WHATEVER THE INPUT: true; the input reads as it did. -/
def codeShowsSpec : ChangeSpec := { name := "codeShows", fn := fun _ => fun
  | [d] => { results := [.lit (.bool true)], args := [d] }
  | _ => none }
def codeShowsRow : OpenClaim := { program := "ytdjamdbamkhblabdoor", sum := "ac5732adc8453e995398f07892df11b8dd494f3bae90ceb304cb5afe8320ff9e", func := "curfew/curfewlaw.CodeShows", spec := "codeShows", inPlace := ["internal/abi.NoEscape"], recurses := true, named := ["curfew/code.names", "curfew/code.shapes", "internal/strconv.uint64pow10", "math/bits.deBruijn32tab", "math/bits.deBruijn64tab"], apart := false, laid := [("math/bits.deBruijn32tab", laid_math_bits_deBruijn32tab), ("math/bits.deBruijn64tab", laid_math_bits_deBruijn64tab), ("internal/strconv.uint64pow10", laid_internal_strconv_uint64pow10), ("curfew/code.shapes", laid_curfew_code_shapes), ("curfew/code.names", laid_curfew_code_names)] }
def CodeShowsSaid : Prop := codeShowsRow.holds Tryd.pinned (OpenSpec.ofChange codeShowsSpec)

/-- ITS FALSE NEIGHBOUR: 'it returns false'. Refute it at one input. -/
def codeShowsWrong : ChangeSpec := { name := "codeShows", fn := fun _ => fun
  | [d] => { results := [.lit (.bool false)], args := [d] }
  | _ => none }
def CodeShowsWrongFalsely : Prop := codeShowsRow.holds Tryd.pinned (OpenSpec.ofChange codeShowsWrong)

/- THE SECOND FORM. 'bulk': how many values and letters a reading holds, each counted each time it is reached (what is shared counts as often as it is met; a slice's spare places count too). A statement '..UptoSaid' is the law's where the arguments, and the package variables that the reading takes, are together of bulk at most 1048576: NARROWER than '..Said'. Prove '..Said' where nothing that the law and all that it calls make is longer than what came in: it says more and counts as full. Else prove '..UptoSaid'. A law counts once. -/
mutual
def uptoBulk {H : Type} : DataW H → Nat
  | .lit (.string bytes) => bytes.length + 1
  | .lit _ => 1
  | .nil => 1
  | .ptr d => uptoBulk d + 1
  | .slice elems spare => uptoBulkAll elems + uptoBulkAll spare + 1
  | .agg parts => uptoBulkAll parts + 1
  | .iface _ d => uptoBulk d + 1
  | .map entries => uptoBulkEntries entries + 1
  | .held _ => 1
def uptoBulkAll {H : Type} : List (DataW H) → Nat
  | [] => 0
  | d :: r => uptoBulk d + uptoBulkAll r
def uptoBulkEntries {H : Type} : List (Lit × DataW H) → Nat
  | [] => 0
  | x :: r => uptoBulkEntry x + uptoBulkEntries r
def uptoBulkEntry {H : Type} : Lit × DataW H → Nat
  | (.string bytes, d) => bytes.length + uptoBulk d + 1
  | (_, d) => uptoBulk d + 1
 end
def uptoSmall : (H : Type) → List (DataW H) → Bool := fun _ ds => decide (uptoBulkAll ds ≤ 1048576)
def OpenSpec.upto (s : _root_.Go.ChangeSpec) : _root_.Go.OpenSpec := { _root_.Go.OpenSpec.ofChange s with cond := some uptoSmall }

/-- 'curfewtop.TopNever', WHERE WHAT IT READS IS OF BULK AT MOST 1048576: true; the input reads as it did. -/
def topNeverUptoRow : OpenClaim := { program := "ytdjamdbamkhblabdoor", sum := "ac5732adc8453e995398f07892df11b8dd494f3bae90ceb304cb5afe8320ff9e", func := "curfew/curfewtop.TopNever", spec := "topNever", unfollowed := true, recurses := true, named := ["curfew/code.shapes"], apart := false, laid := [("curfew/code.shapes", laid_curfew_code_shapes)], narrowed := true }
def TopNeverUptoSaid : Prop := topNeverUptoRow.holds Tryd.pinned (OpenSpec.upto topNeverSpec)

/-- 'curfewkeep.MadeSafe', WHERE WHAT IT READS IS OF BULK AT MOST 1048576: true; the input reads as it did. -/
def madeSafeUptoRow : OpenClaim := { program := "ytdjamdbamkhblabdoor", sum := "ac5732adc8453e995398f07892df11b8dd494f3bae90ceb304cb5afe8320ff9e", func := "curfew/curfewkeep.MadeSafe", spec := "madeSafe", unfollowed := true, recurses := true, named := ["curfew/code.shapes"], apart := false, laid := [("curfew/code.shapes", laid_curfew_code_shapes)], narrowed := true }
def MadeSafeUptoSaid : Prop := madeSafeUptoRow.holds Tryd.pinned (OpenSpec.upto madeSafeSpec)

/-- 'curfewlaw.ModuleDecodes', WHERE WHAT IT READS IS OF BULK AT MOST 1048576: true; the input reads as it did. -/
def moduleDecodesUptoRow : OpenClaim := { program := "ytdjamdbamkhblabdoor", sum := "ac5732adc8453e995398f07892df11b8dd494f3bae90ceb304cb5afe8320ff9e", func := "curfew/curfewlaw.ModuleDecodes", spec := "moduleDecodes", unfollowed := true, recurses := true, named := ["curfew/code.shapes"], apart := false, laid := [("curfew/code.shapes", laid_curfew_code_shapes)], narrowed := true }
def ModuleDecodesUptoSaid : Prop := moduleDecodesUptoRow.holds Tryd.pinned (OpenSpec.upto moduleDecodesSpec)

/-- 'curfewlaw.KernChecks', WHERE WHAT IT READS IS OF BULK AT MOST 1048576: true; the input reads as it did. -/
def kernChecksUptoRow : OpenClaim := { program := "ytdjamdbamkhblabdoor", sum := "ac5732adc8453e995398f07892df11b8dd494f3bae90ceb304cb5afe8320ff9e", func := "curfew/curfewlaw.KernChecks", spec := "kernChecks", unfollowed := true, recurses := true, named := ["curfew/code.shapes"], apart := false, laid := [("curfew/code.shapes", laid_curfew_code_shapes)], narrowed := true }
def KernChecksUptoSaid : Prop := kernChecksUptoRow.holds Tryd.pinned (OpenSpec.upto kernChecksSpec)

/-- 'curfewtop.TopRegion', WHERE WHAT IT READS IS OF BULK AT MOST 1048576: true; the input reads as it did. -/
def topRegionUptoRow : OpenClaim := { program := "ytdjamdbamkhblabdoor", sum := "ac5732adc8453e995398f07892df11b8dd494f3bae90ceb304cb5afe8320ff9e", func := "curfew/curfewtop.TopRegion", spec := "topRegion", unfollowed := true, recurses := true, named := ["curfew/code.shapes"], apart := false, laid := [("curfew/code.shapes", laid_curfew_code_shapes)], narrowed := true }
def TopRegionUptoSaid : Prop := topRegionUptoRow.holds Tryd.pinned (OpenSpec.upto topRegionSpec)

/-- 'curfewlaw.CpuRuns', WHERE WHAT IT READS IS OF BULK AT MOST 1048576: true; the input reads as it did. -/
def cpuRunsUptoRow : OpenClaim := { program := "ytdjamdbamkhblabdoor", sum := "ac5732adc8453e995398f07892df11b8dd494f3bae90ceb304cb5afe8320ff9e", func := "curfew/curfewlaw.CpuRuns", spec := "cpuRuns", unfollowed := true, recurses := true, named := ["curfew/code.shapes"], apart := false, laid := [("curfew/code.shapes", laid_curfew_code_shapes)], narrowed := true }
def CpuRunsUptoSaid : Prop := cpuRunsUptoRow.holds Tryd.pinned (OpenSpec.upto cpuRunsSpec)

/-- 'curfewkeep.RunsCount', WHERE WHAT IT READS IS OF BULK AT MOST 1048576: true; the input reads as it did. -/
def runsCountUptoRow : OpenClaim := { program := "ytdjamdbamkhblabdoor", sum := "ac5732adc8453e995398f07892df11b8dd494f3bae90ceb304cb5afe8320ff9e", func := "curfew/curfewkeep.RunsCount", spec := "runsCount", unfollowed := true, recurses := true, named := ["curfew/code.shapes"], apart := false, laid := [("curfew/code.shapes", laid_curfew_code_shapes)], narrowed := true }
def RunsCountUptoSaid : Prop := runsCountUptoRow.holds Tryd.pinned (OpenSpec.upto runsCountSpec)

/-- 'curfewkeep.RunsReckon', WHERE WHAT IT READS IS OF BULK AT MOST 1048576: true; the input reads as it did. -/
def runsReckonUptoRow : OpenClaim := { program := "ytdjamdbamkhblabdoor", sum := "ac5732adc8453e995398f07892df11b8dd494f3bae90ceb304cb5afe8320ff9e", func := "curfew/curfewkeep.RunsReckon", spec := "runsReckon", unfollowed := true, recurses := true, named := ["curfew/code.shapes"], apart := false, laid := [("curfew/code.shapes", laid_curfew_code_shapes)], narrowed := true }
def RunsReckonUptoSaid : Prop := runsReckonUptoRow.holds Tryd.pinned (OpenSpec.upto runsReckonSpec)

/-- 'curfewkeep.RunsCall', WHERE WHAT IT READS IS OF BULK AT MOST 1048576: true; the input reads as it did. -/
def runsCallUptoRow : OpenClaim := { program := "ytdjamdbamkhblabdoor", sum := "ac5732adc8453e995398f07892df11b8dd494f3bae90ceb304cb5afe8320ff9e", func := "curfew/curfewkeep.RunsCall", spec := "runsCall", unfollowed := true, recurses := true, named := ["curfew/code.shapes"], apart := false, laid := [("curfew/code.shapes", laid_curfew_code_shapes)], narrowed := true }
def RunsCallUptoSaid : Prop := runsCallUptoRow.holds Tryd.pinned (OpenSpec.upto runsCallSpec)

/-- 'curfewkeep.ModulesBack', WHERE WHAT IT READS IS OF BULK AT MOST 1048576: true; the input reads as it did. -/
def modulesBackUptoRow : OpenClaim := { program := "ytdjamdbamkhblabdoor", sum := "ac5732adc8453e995398f07892df11b8dd494f3bae90ceb304cb5afe8320ff9e", func := "curfew/curfewkeep.ModulesBack", spec := "modulesBack", unfollowed := true, recurses := true, named := ["curfew/code.shapes"], apart := false, laid := [("curfew/code.shapes", laid_curfew_code_shapes)], narrowed := true }
def ModulesBackUptoSaid : Prop := modulesBackUptoRow.holds Tryd.pinned (OpenSpec.upto modulesBackSpec)

/-- 'curfewlaw.CodeShows', WHERE WHAT IT READS IS OF BULK AT MOST 1048576: true; the input reads as it did. -/
def codeShowsUptoRow : OpenClaim := { program := "ytdjamdbamkhblabdoor", sum := "ac5732adc8453e995398f07892df11b8dd494f3bae90ceb304cb5afe8320ff9e", func := "curfew/curfewlaw.CodeShows", spec := "codeShows", inPlace := ["internal/abi.NoEscape"], recurses := true, named := ["curfew/code.names", "curfew/code.shapes", "internal/strconv.uint64pow10", "math/bits.deBruijn32tab", "math/bits.deBruijn64tab"], apart := false, laid := [("math/bits.deBruijn32tab", laid_math_bits_deBruijn32tab), ("math/bits.deBruijn64tab", laid_math_bits_deBruijn64tab), ("internal/strconv.uint64pow10", laid_internal_strconv_uint64pow10), ("curfew/code.shapes", laid_curfew_code_shapes), ("curfew/code.names", laid_curfew_code_names)], narrowed := true }
def CodeShowsUptoSaid : Prop := codeShowsUptoRow.holds Tryd.pinned (OpenSpec.upto codeShowsSpec)

end Rows
end Go.Proofs.YtdjamdbamkhblabDoor
