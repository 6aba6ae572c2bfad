/-
  NARROWER THAN 'FOR EVERY INPUT', by the rows' own cells (each row's printed sentence says how): FilesBack: laid · PipesFlow: laid · KernelsGood: laid · CodeReads: laid · CodesBack: laid · CodesBad: laid · TopApart: laid · TopTwice: laid · TopQuiet: laid.
  DERIVED. THE GIVEN ROWS OF THIS SEAT. 9 by the template 'for every input the law returns true; each argument reads behind the call as it read before'; 0 by the template 'total and deterministic' (their statements: YtdjamdbamkhblacDoorTotals.lean).
  GIVEN WITH THE SEED: the statements are not yours to turn. If you find one false, say at which input.
  Laid BY PROGRAM, IN A SANDBOX (cutbox-rows.mjs): the forced cells as the released guide's own fill.sh prints them over the translation bbe39c18a0dff4ff… (all of the seat's roots in one cut). By AI agents, Wed Nov 11 2026. No macro, syntax, notation, axiom, sorry.
-/
import Derived.Test.YtdjamdbamkhblacDoorChecked
import GoSem.PinnedTables
import GoSem.Claim
import GoSem.ClaimJoined
import GoSem.ClaimMapViews
import Derived.JoinedTies
import Derived.KernelRfl
namespace Go.Proofs.YtdjamdbamkhblacDoor
/- THE CELL 'sum', in the pinned program and in every row, IS THE sha256 OF THE DUMP (.gsa) THAT YtdjamdbamkhblacDoorProg.lean LOADS. Nothing in Lean hashes anything: it is a label: what it is worth is what the hold of that sum in a sandbox is worth. -/
noncomputable def Tryd.pinned : Pinned := { name := "ytdjamdbamkhblacdoor", sum := "bbe39c18a0dff4ffad72abd6f579954a89a04b98f75ca4588eeb643faf790e7c", checked := Tryd.checked }
namespace Rows
def none {H : Type} : Left H := { results := [], args := [] }

/- WHAT THE LISTED PACKAGE-LEVEL VARIABLES READ AS WHEN THE CALL BEGINS. Each datum BY PROGRAM (the guide's laid-datum.mjs) off the statement by which the dump's own 'gosem.cut.vars' lays the variable. In a bare row this is a premise. The card (YtdjamdbamkhblacDoorCards.lean) ties it to the program's text. -/
def laid_curfew_code_shapes {H : Type} : DataW H := .agg [.lit (.string []), .lit (.string [114, 45, 119]), .lit (.string [114, 114, 114]), .lit (.string [114, 114, 114]), .lit (.string [114, 114, 114]), .lit (.string [114, 114, 114]), .lit (.string [114, 114, 114]), .lit (.string [114, 114, 114]), .lit (.string [114, 114, 45]), .lit (.string [114, 114, 45]), .lit (.string [45, 45, 112]), .lit (.string [114, 45, 112]), .lit (.string [45, 45, 112]), .lit (.string [45, 45, 45]), .lit (.string [114, 45, 45]), .lit (.string [45, 45, 45])]
def laid_math_bits_deBruijn32tab {H : Type} : DataW H := .agg [.lit (.int .u8 0), .lit (.int .u8 1), .lit (.int .u8 28), .lit (.int .u8 2), .lit (.int .u8 29), .lit (.int .u8 14), .lit (.int .u8 24), .lit (.int .u8 3), .lit (.int .u8 30), .lit (.int .u8 22), .lit (.int .u8 20), .lit (.int .u8 15), .lit (.int .u8 25), .lit (.int .u8 17), .lit (.int .u8 4), .lit (.int .u8 8), .lit (.int .u8 31), .lit (.int .u8 27), .lit (.int .u8 13), .lit (.int .u8 23), .lit (.int .u8 21), .lit (.int .u8 19), .lit (.int .u8 16), .lit (.int .u8 7), .lit (.int .u8 26), .lit (.int .u8 12), .lit (.int .u8 18), .lit (.int .u8 6), .lit (.int .u8 11), .lit (.int .u8 5), .lit (.int .u8 10), .lit (.int .u8 9)]
def laid_math_bits_deBruijn64tab {H : Type} : DataW H := .agg [.lit (.int .u8 0), .lit (.int .u8 1), .lit (.int .u8 56), .lit (.int .u8 2), .lit (.int .u8 57), .lit (.int .u8 49), .lit (.int .u8 28), .lit (.int .u8 3), .lit (.int .u8 61), .lit (.int .u8 58), .lit (.int .u8 42), .lit (.int .u8 50), .lit (.int .u8 38), .lit (.int .u8 29), .lit (.int .u8 17), .lit (.int .u8 4), .lit (.int .u8 62), .lit (.int .u8 47), .lit (.int .u8 59), .lit (.int .u8 36), .lit (.int .u8 45), .lit (.int .u8 43), .lit (.int .u8 51), .lit (.int .u8 22), .lit (.int .u8 53), .lit (.int .u8 39), .lit (.int .u8 33), .lit (.int .u8 30), .lit (.int .u8 24), .lit (.int .u8 18), .lit (.int .u8 12), .lit (.int .u8 5), .lit (.int .u8 63), .lit (.int .u8 55), .lit (.int .u8 48), .lit (.int .u8 27), .lit (.int .u8 60), .lit (.int .u8 41), .lit (.int .u8 37), .lit (.int .u8 16), .lit (.int .u8 46), .lit (.int .u8 35), .lit (.int .u8 44), .lit (.int .u8 21), .lit (.int .u8 52), .lit (.int .u8 32), .lit (.int .u8 23), .lit (.int .u8 11), .lit (.int .u8 54), .lit (.int .u8 26), .lit (.int .u8 40), .lit (.int .u8 15), .lit (.int .u8 34), .lit (.int .u8 20), .lit (.int .u8 31), .lit (.int .u8 10), .lit (.int .u8 25), .lit (.int .u8 14), .lit (.int .u8 19), .lit (.int .u8 9), .lit (.int .u8 13), .lit (.int .u8 8), .lit (.int .u8 7), .lit (.int .u8 6)]
def laid_internal_strconv_uint64pow10 {H : Type} : DataW H := .agg [.lit (.int .u64 1), .lit (.int .u64 10), .lit (.int .u64 100), .lit (.int .u64 1000), .lit (.int .u64 10000), .lit (.int .u64 100000), .lit (.int .u64 1000000), .lit (.int .u64 10000000), .lit (.int .u64 100000000), .lit (.int .u64 1000000000), .lit (.int .u64 10000000000), .lit (.int .u64 100000000000), .lit (.int .u64 1000000000000), .lit (.int .u64 10000000000000), .lit (.int .u64 100000000000000), .lit (.int .u64 1000000000000000), .lit (.int .u64 10000000000000000), .lit (.int .u64 100000000000000000), .lit (.int .u64 1000000000000000000), .lit (.int .u64 10000000000000000000)]
def laid_unicode_utf8_acceptRanges {H : Type} : DataW H := .agg [.agg [.lit (.int .u8 128), .lit (.int .u8 191)], .agg [.lit (.int .u8 160), .lit (.int .u8 191)], .agg [.lit (.int .u8 128), .lit (.int .u8 159)], .agg [.lit (.int .u8 144), .lit (.int .u8 191)], .agg [.lit (.int .u8 128), .lit (.int .u8 143)], .agg [.lit (.int .u8 0), .lit (.int .u8 0)], .agg [.lit (.int .u8 0), .lit (.int .u8 0)], .agg [.lit (.int .u8 0), .lit (.int .u8 0)], .agg [.lit (.int .u8 0), .lit (.int .u8 0)], .agg [.lit (.int .u8 0), .lit (.int .u8 0)], .agg [.lit (.int .u8 0), .lit (.int .u8 0)], .agg [.lit (.int .u8 0), .lit (.int .u8 0)], .agg [.lit (.int .u8 0), .lit (.int .u8 0)], .agg [.lit (.int .u8 0), .lit (.int .u8 0)], .agg [.lit (.int .u8 0), .lit (.int .u8 0)], .agg [.lit (.int .u8 0), .lit (.int .u8 0)]]
def laid_strconv_ErrRange {H : Type} : DataW H := .iface "*errors.errorString" (.ptr (.agg [.lit (.string [118, 97, 108, 117, 101, 32, 111, 117, 116, 32, 111, 102, 32, 114, 97, 110, 103, 101])]))
def laid_strconv_ErrSyntax {H : Type} : DataW H := .iface "*errors.errorString" (.ptr (.agg [.lit (.string [105, 110, 118, 97, 108, 105, 100, 32, 115, 121, 110, 116, 97, 120])]))
def laid_curfew_code_names {H : Type} : DataW H := .agg [.lit (.string []), .lit (.string [108, 105]), .lit (.string [97, 100, 100]), .lit (.string [115, 117, 98]), .lit (.string [97, 110, 100]), .lit (.string [111, 114]), .lit (.string [120, 111, 114]), .lit (.string [108, 116]), .lit (.string [108, 100]), .lit (.string [115, 116]), .lit (.string [106, 109, 112]), .lit (.string [106, 122]), .lit (.string [99, 97, 108, 108]), .lit (.string [114, 101, 116]), .lit (.string [116, 101, 108, 108]), .lit (.string [104, 97, 108, 116])]
/-- One of Go's own tables, pinned by name: the form's constant. -/
def laid_unicode_utf8_first : DataW Unit := Go.Pinned.utf8First

/-- 'curfewkeep.FilesBack': WHATEVER THE INPUT: true; the input reads as it did. -/
def filesBackSpec : ChangeSpec := { name := "filesBack", fn := fun _ => fun
  | [d1, d2, d3] => { results := [.lit (.bool true)], args := [d1, d2, d3] }
  | _ => none }
def filesBackRow : OpenClaim := { program := "ytdjamdbamkhblacdoor", sum := "bbe39c18a0dff4ffad72abd6f579954a89a04b98f75ca4588eeb643faf790e7c", func := "curfew/curfewkeep.FilesBack", spec := "filesBack", unfollowed := true, recurses := true, named := ["curfew/code.shapes"], apart := false, laid := [("curfew/code.shapes", laid_curfew_code_shapes)] }
def FilesBackSaid : Prop := filesBackRow.holds Tryd.pinned (OpenSpec.ofChange filesBackSpec)

/-- ITS FALSE NEIGHBOUR: 'it returns false'. Refute it at one input. -/
def filesBackWrong : ChangeSpec := { name := "filesBack", fn := fun _ => fun
  | [d1, d2, d3] => { results := [.lit (.bool false)], args := [d1, d2, d3] }
  | _ => none }
def FilesBackWrongFalsely : Prop := filesBackRow.holds Tryd.pinned (OpenSpec.ofChange filesBackWrong)

/-- 'curfewkeep.PipesFlow': WHATEVER THE INPUT: true; the input reads as it did. -/
def pipesFlowSpec : ChangeSpec := { name := "pipesFlow", fn := fun _ => fun
  | [d] => { results := [.lit (.bool true)], args := [d] }
  | _ => none }
def pipesFlowRow : OpenClaim := { program := "ytdjamdbamkhblacdoor", sum := "bbe39c18a0dff4ffad72abd6f579954a89a04b98f75ca4588eeb643faf790e7c", func := "curfew/curfewkeep.PipesFlow", spec := "pipesFlow", unfollowed := true, recurses := true, named := ["curfew/code.shapes"], apart := false, laid := [("curfew/code.shapes", laid_curfew_code_shapes)] }
def PipesFlowSaid : Prop := pipesFlowRow.holds Tryd.pinned (OpenSpec.ofChange pipesFlowSpec)

/-- ITS FALSE NEIGHBOUR: 'it returns false'. Refute it at one input. -/
def pipesFlowWrong : ChangeSpec := { name := "pipesFlow", fn := fun _ => fun
  | [d] => { results := [.lit (.bool false)], args := [d] }
  | _ => none }
def PipesFlowWrongFalsely : Prop := pipesFlowRow.holds Tryd.pinned (OpenSpec.ofChange pipesFlowWrong)

/-- 'curfewkeep.KernelsGood': WHATEVER THE INPUT: true; the input reads as it did. -/
def kernelsGoodSpec : ChangeSpec := { name := "kernelsGood", fn := fun _ => fun
  | [d1, d2] => { results := [.lit (.bool true)], args := [d1, d2] }
  | _ => none }
def kernelsGoodRow : OpenClaim := { program := "ytdjamdbamkhblacdoor", sum := "bbe39c18a0dff4ffad72abd6f579954a89a04b98f75ca4588eeb643faf790e7c", func := "curfew/curfewkeep.KernelsGood", spec := "kernelsGood", unfollowed := true, recurses := true, named := ["curfew/code.shapes"], apart := false, laid := [("curfew/code.shapes", laid_curfew_code_shapes)] }
def KernelsGoodSaid : Prop := kernelsGoodRow.holds Tryd.pinned (OpenSpec.ofChange kernelsGoodSpec)

/-- ITS FALSE NEIGHBOUR: 'it returns false'. Refute it at one input. -/
def kernelsGoodWrong : ChangeSpec := { name := "kernelsGood", fn := fun _ => fun
  | [d1, d2] => { results := [.lit (.bool false)], args := [d1, d2] }
  | _ => none }
def KernelsGoodWrongFalsely : Prop := kernelsGoodRow.holds Tryd.pinned (OpenSpec.ofChange kernelsGoodWrong)

/-- 'curfewlaw.CodeReads': WHATEVER THE INPUT: true; the input reads as it did. -/
def codeReadsSpec : ChangeSpec := { name := "codeReads", fn := fun _ => fun
  | [d] => { results := [.lit (.bool true)], args := [d] }
  | _ => none }
def codeReadsRow : OpenClaim := { program := "ytdjamdbamkhblacdoor", sum := "bbe39c18a0dff4ffad72abd6f579954a89a04b98f75ca4588eeb643faf790e7c", func := "curfew/curfewlaw.CodeReads", spec := "codeReads", inPlace := ["internal/bytealg.IndexByteString", "internal/bytealg.IndexString", "internal/bytealg.CountString"], named := ["internal/bytealg.MaxLen", "curfew/code.names", "curfew/code.shapes", "unicode/utf8.first", "unicode/utf8.acceptRanges", "strconv.ErrSyntax", "strconv.ErrRange", "internal/strconv.uint64pow10", "math/bits.deBruijn32tab", "math/bits.deBruijn64tab"], apart := false, laid := [("math/bits.deBruijn32tab", laid_math_bits_deBruijn32tab), ("math/bits.deBruijn64tab", laid_math_bits_deBruijn64tab), ("internal/strconv.uint64pow10", laid_internal_strconv_uint64pow10), ("unicode/utf8.acceptRanges", laid_unicode_utf8_acceptRanges), ("strconv.ErrRange", laid_strconv_ErrRange), ("strconv.ErrSyntax", laid_strconv_ErrSyntax), ("curfew/code.shapes", laid_curfew_code_shapes), ("curfew/code.names", laid_curfew_code_names), ("unicode/utf8.first", laid_unicode_utf8_first)] }
def CodeReadsSaid : Prop := codeReadsRow.holds Tryd.pinned (OpenSpec.ofChange codeReadsSpec)

/-- ITS FALSE NEIGHBOUR: 'it returns false'. Refute it at one input. -/
def codeReadsWrong : ChangeSpec := { name := "codeReads", fn := fun _ => fun
  | [d] => { results := [.lit (.bool false)], args := [d] }
  | _ => none }
def CodeReadsWrongFalsely : Prop := codeReadsRow.holds Tryd.pinned (OpenSpec.ofChange codeReadsWrong)

/-- 'curfewkeep.CodesBack': WHATEVER THE INPUT: true; the input reads as it did. -/
def codesBackSpec : ChangeSpec := { name := "codesBack", fn := fun _ => fun
  | [d1, d2] => { results := [.lit (.bool true)], args := [d1, d2] }
  | _ => none }
def codesBackRow : OpenClaim := { program := "ytdjamdbamkhblacdoor", sum := "bbe39c18a0dff4ffad72abd6f579954a89a04b98f75ca4588eeb643faf790e7c", func := "curfew/curfewkeep.CodesBack", spec := "codesBack", inPlace := ["internal/abi.NoEscape", "internal/bytealg.IndexByteString", "internal/bytealg.IndexString", "internal/bytealg.CountString"], named := ["curfew/code.names", "curfew/code.shapes", "internal/strconv.uint64pow10", "math/bits.deBruijn32tab", "math/bits.deBruijn64tab", "internal/bytealg.MaxLen", "unicode/utf8.first", "unicode/utf8.acceptRanges", "strconv.ErrSyntax", "strconv.ErrRange"], apart := false, laid := [("math/bits.deBruijn32tab", laid_math_bits_deBruijn32tab), ("math/bits.deBruijn64tab", laid_math_bits_deBruijn64tab), ("internal/strconv.uint64pow10", laid_internal_strconv_uint64pow10), ("unicode/utf8.acceptRanges", laid_unicode_utf8_acceptRanges), ("strconv.ErrRange", laid_strconv_ErrRange), ("strconv.ErrSyntax", laid_strconv_ErrSyntax), ("curfew/code.shapes", laid_curfew_code_shapes), ("curfew/code.names", laid_curfew_code_names), ("unicode/utf8.first", laid_unicode_utf8_first)] }
def CodesBackSaid : Prop := codesBackRow.holds Tryd.pinned (OpenSpec.ofChange codesBackSpec)

/-- ITS FALSE NEIGHBOUR: 'it returns false'. Refute it at one input. -/
def codesBackWrong : ChangeSpec := { name := "codesBack", fn := fun _ => fun
  | [d1, d2] => { results := [.lit (.bool false)], args := [d1, d2] }
  | _ => none }
def CodesBackWrongFalsely : Prop := codesBackRow.holds Tryd.pinned (OpenSpec.ofChange codesBackWrong)

/-- 'curfewkeep.CodesBad': WHATEVER THE INPUT: true; the input reads as it did. -/
def codesBadSpec : ChangeSpec := { name := "codesBad", fn := fun _ => fun
  | [d1, d2] => { results := [.lit (.bool true)], args := [d1, d2] }
  | _ => none }
def codesBadRow : OpenClaim := { program := "ytdjamdbamkhblacdoor", sum := "bbe39c18a0dff4ffad72abd6f579954a89a04b98f75ca4588eeb643faf790e7c", func := "curfew/curfewkeep.CodesBad", spec := "codesBad", inPlace := ["internal/abi.NoEscape", "internal/bytealg.IndexByteString", "internal/bytealg.IndexString", "internal/bytealg.CountString", "internal/bytealg.MakeNoZero"], named := ["curfew/code.names", "curfew/code.shapes", "internal/strconv.uint64pow10", "math/bits.deBruijn32tab", "math/bits.deBruijn64tab", "internal/bytealg.MaxLen", "unicode/utf8.first", "unicode/utf8.acceptRanges", "strconv.ErrSyntax", "strconv.ErrRange"], apart := false, laid := [("math/bits.deBruijn32tab", laid_math_bits_deBruijn32tab), ("math/bits.deBruijn64tab", laid_math_bits_deBruijn64tab), ("internal/strconv.uint64pow10", laid_internal_strconv_uint64pow10), ("unicode/utf8.acceptRanges", laid_unicode_utf8_acceptRanges), ("strconv.ErrRange", laid_strconv_ErrRange), ("strconv.ErrSyntax", laid_strconv_ErrSyntax), ("curfew/code.shapes", laid_curfew_code_shapes), ("curfew/code.names", laid_curfew_code_names), ("unicode/utf8.first", laid_unicode_utf8_first)] }
def CodesBadSaid : Prop := codesBadRow.holds Tryd.pinned (OpenSpec.ofChange codesBadSpec)

/-- ITS FALSE NEIGHBOUR: 'it returns false'. Refute it at one input. -/
def codesBadWrong : ChangeSpec := { name := "codesBad", fn := fun _ => fun
  | [d1, d2] => { results := [.lit (.bool false)], args := [d1, d2] }
  | _ => none }
def CodesBadWrongFalsely : Prop := codesBadRow.holds Tryd.pinned (OpenSpec.ofChange codesBadWrong)

/-- 'curfewtop.TopApart': WHATEVER THE INPUT: true; the input reads as it did. -/
def topApartSpec : ChangeSpec := { name := "topApart", fn := fun _ => fun
  | [d1, d2, d3] => { results := [.lit (.bool true)], args := [d1, d2, d3] }
  | _ => none }
def topApartRow : OpenClaim := { program := "ytdjamdbamkhblacdoor", sum := "bbe39c18a0dff4ffad72abd6f579954a89a04b98f75ca4588eeb643faf790e7c", func := "curfew/curfewtop.TopApart", spec := "topApart", unfollowed := true, recurses := true, named := ["curfew/code.shapes"], apart := false, laid := [("curfew/code.shapes", laid_curfew_code_shapes)] }
def TopApartSaid : Prop := topApartRow.holds Tryd.pinned (OpenSpec.ofChange topApartSpec)

/-- ITS FALSE NEIGHBOUR: 'it returns false'. Refute it at one input. -/
def topApartWrong : ChangeSpec := { name := "topApart", fn := fun _ => fun
  | [d1, d2, d3] => { results := [.lit (.bool false)], args := [d1, d2, d3] }
  | _ => none }
def TopApartWrongFalsely : Prop := topApartRow.holds Tryd.pinned (OpenSpec.ofChange topApartWrong)

/-- 'curfewtop.TopTwice': WHATEVER THE INPUT: true; the input reads as it did. -/
def topTwiceSpec : ChangeSpec := { name := "topTwice", fn := fun _ => fun
  | [d1, d2, d3, d4] => { results := [.lit (.bool true)], args := [d1, d2, d3, d4] }
  | _ => none }
def topTwiceRow : OpenClaim := { program := "ytdjamdbamkhblacdoor", sum := "bbe39c18a0dff4ffad72abd6f579954a89a04b98f75ca4588eeb643faf790e7c", func := "curfew/curfewtop.TopTwice", spec := "topTwice", unfollowed := true, recurses := true, named := ["curfew/code.shapes"], apart := false, laid := [("curfew/code.shapes", laid_curfew_code_shapes)] }
def TopTwiceSaid : Prop := topTwiceRow.holds Tryd.pinned (OpenSpec.ofChange topTwiceSpec)

/-- ITS FALSE NEIGHBOUR: 'it returns false'. Refute it at one input. -/
def topTwiceWrong : ChangeSpec := { name := "topTwice", fn := fun _ => fun
  | [d1, d2, d3, d4] => { results := [.lit (.bool false)], args := [d1, d2, d3, d4] }
  | _ => none }
def TopTwiceWrongFalsely : Prop := topTwiceRow.holds Tryd.pinned (OpenSpec.ofChange topTwiceWrong)

/-- 'curfewtop.TopQuiet': WHATEVER THE INPUT: true; the input reads as it did. -/
def topQuietSpec : ChangeSpec := { name := "topQuiet", fn := fun _ => fun
  | [d1, d2, d3, d4] => { results := [.lit (.bool true)], args := [d1, d2, d3, d4] }
  | _ => none }
def topQuietRow : OpenClaim := { program := "ytdjamdbamkhblacdoor", sum := "bbe39c18a0dff4ffad72abd6f579954a89a04b98f75ca4588eeb643faf790e7c", func := "curfew/curfewtop.TopQuiet", spec := "topQuiet", unfollowed := true, recurses := true, named := ["curfew/code.shapes"], apart := false, laid := [("curfew/code.shapes", laid_curfew_code_shapes)] }
def TopQuietSaid : Prop := topQuietRow.holds Tryd.pinned (OpenSpec.ofChange topQuietSpec)

/-- ITS FALSE NEIGHBOUR: 'it returns false'. Refute it at one input. -/
def topQuietWrong : ChangeSpec := { name := "topQuiet", fn := fun _ => fun
  | [d1, d2, d3, d4] => { results := [.lit (.bool false)], args := [d1, d2, d3, d4] }
  | _ => none }
def TopQuietWrongFalsely : Prop := topQuietRow.holds Tryd.pinned (OpenSpec.ofChange topQuietWrong)

/- THE SECOND FORM. 'bulk': how many values and letters a reading holds, each counted each time it is reached (what is shared counts as often as it is met; a slice's spare places count too). A statement '..UptoSaid' is the law's where the arguments, and the package variables that the reading takes, are together of bulk at most 1048576: NARROWER than '..Said'. Prove '..Said' where nothing that the law and all that it calls make is longer than what came in: it says more and counts as full. Else prove '..UptoSaid'. A law counts once. -/
mutual
def uptoBulk {H : Type} : DataW H → Nat
  | .lit (.string bytes) => bytes.length + 1
  | .lit _ => 1
  | .nil => 1
  | .ptr d => uptoBulk d + 1
  | .slice elems spare => uptoBulkAll elems + uptoBulkAll spare + 1
  | .agg parts => uptoBulkAll parts + 1
  | .iface _ d => uptoBulk d + 1
  | .map entries => uptoBulkEntries entries + 1
  | .held _ => 1
def uptoBulkAll {H : Type} : List (DataW H) → Nat
  | [] => 0
  | d :: r => uptoBulk d + uptoBulkAll r
def uptoBulkEntries {H : Type} : List (Lit × DataW H) → Nat
  | [] => 0
  | x :: r => uptoBulkEntry x + uptoBulkEntries r
def uptoBulkEntry {H : Type} : Lit × DataW H → Nat
  | (.string bytes, d) => bytes.length + uptoBulk d + 1
  | (_, d) => uptoBulk d + 1
 end
def uptoSmall : (H : Type) → List (DataW H) → Bool := fun _ ds => decide (uptoBulkAll ds ≤ 1048576)
def OpenSpec.upto (s : _root_.Go.ChangeSpec) : _root_.Go.OpenSpec := { _root_.Go.OpenSpec.ofChange s with cond := some uptoSmall }

/-- 'curfewkeep.FilesBack', WHERE WHAT IT READS IS OF BULK AT MOST 1048576: true; the input reads as it did. -/
def filesBackUptoRow : OpenClaim := { program := "ytdjamdbamkhblacdoor", sum := "bbe39c18a0dff4ffad72abd6f579954a89a04b98f75ca4588eeb643faf790e7c", func := "curfew/curfewkeep.FilesBack", spec := "filesBack", unfollowed := true, recurses := true, named := ["curfew/code.shapes"], apart := false, laid := [("curfew/code.shapes", laid_curfew_code_shapes)], narrowed := true }
def FilesBackUptoSaid : Prop := filesBackUptoRow.holds Tryd.pinned (OpenSpec.upto filesBackSpec)

/-- 'curfewkeep.PipesFlow', WHERE WHAT IT READS IS OF BULK AT MOST 1048576: true; the input reads as it did. -/
def pipesFlowUptoRow : OpenClaim := { program := "ytdjamdbamkhblacdoor", sum := "bbe39c18a0dff4ffad72abd6f579954a89a04b98f75ca4588eeb643faf790e7c", func := "curfew/curfewkeep.PipesFlow", spec := "pipesFlow", unfollowed := true, recurses := true, named := ["curfew/code.shapes"], apart := false, laid := [("curfew/code.shapes", laid_curfew_code_shapes)], narrowed := true }
def PipesFlowUptoSaid : Prop := pipesFlowUptoRow.holds Tryd.pinned (OpenSpec.upto pipesFlowSpec)

/-- 'curfewkeep.KernelsGood', WHERE WHAT IT READS IS OF BULK AT MOST 1048576: true; the input reads as it did. -/
def kernelsGoodUptoRow : OpenClaim := { program := "ytdjamdbamkhblacdoor", sum := "bbe39c18a0dff4ffad72abd6f579954a89a04b98f75ca4588eeb643faf790e7c", func := "curfew/curfewkeep.KernelsGood", spec := "kernelsGood", unfollowed := true, recurses := true, named := ["curfew/code.shapes"], apart := false, laid := [("curfew/code.shapes", laid_curfew_code_shapes)], narrowed := true }
def KernelsGoodUptoSaid : Prop := kernelsGoodUptoRow.holds Tryd.pinned (OpenSpec.upto kernelsGoodSpec)

/-- 'curfewlaw.CodeReads', WHERE WHAT IT READS IS OF BULK AT MOST 1048576: true; the input reads as it did. -/
def codeReadsUptoRow : OpenClaim := { program := "ytdjamdbamkhblacdoor", sum := "bbe39c18a0dff4ffad72abd6f579954a89a04b98f75ca4588eeb643faf790e7c", func := "curfew/curfewlaw.CodeReads", spec := "codeReads", inPlace := ["internal/bytealg.IndexByteString", "internal/bytealg.IndexString", "internal/bytealg.CountString"], named := ["internal/bytealg.MaxLen", "curfew/code.names", "curfew/code.shapes", "unicode/utf8.first", "unicode/utf8.acceptRanges", "strconv.ErrSyntax", "strconv.ErrRange", "internal/strconv.uint64pow10", "math/bits.deBruijn32tab", "math/bits.deBruijn64tab"], apart := false, laid := [("math/bits.deBruijn32tab", laid_math_bits_deBruijn32tab), ("math/bits.deBruijn64tab", laid_math_bits_deBruijn64tab), ("internal/strconv.uint64pow10", laid_internal_strconv_uint64pow10), ("unicode/utf8.acceptRanges", laid_unicode_utf8_acceptRanges), ("strconv.ErrRange", laid_strconv_ErrRange), ("strconv.ErrSyntax", laid_strconv_ErrSyntax), ("curfew/code.shapes", laid_curfew_code_shapes), ("curfew/code.names", laid_curfew_code_names), ("unicode/utf8.first", laid_unicode_utf8_first)], narrowed := true }
def CodeReadsUptoSaid : Prop := codeReadsUptoRow.holds Tryd.pinned (OpenSpec.upto codeReadsSpec)

/-- 'curfewkeep.CodesBack', WHERE WHAT IT READS IS OF BULK AT MOST 1048576: true; the input reads as it did. -/
def codesBackUptoRow : OpenClaim := { program := "ytdjamdbamkhblacdoor", sum := "bbe39c18a0dff4ffad72abd6f579954a89a04b98f75ca4588eeb643faf790e7c", func := "curfew/curfewkeep.CodesBack", spec := "codesBack", inPlace := ["internal/abi.NoEscape", "internal/bytealg.IndexByteString", "internal/bytealg.IndexString", "internal/bytealg.CountString"], named := ["curfew/code.names", "curfew/code.shapes", "internal/strconv.uint64pow10", "math/bits.deBruijn32tab", "math/bits.deBruijn64tab", "internal/bytealg.MaxLen", "unicode/utf8.first", "unicode/utf8.acceptRanges", "strconv.ErrSyntax", "strconv.ErrRange"], apart := false, laid := [("math/bits.deBruijn32tab", laid_math_bits_deBruijn32tab), ("math/bits.deBruijn64tab", laid_math_bits_deBruijn64tab), ("internal/strconv.uint64pow10", laid_internal_strconv_uint64pow10), ("unicode/utf8.acceptRanges", laid_unicode_utf8_acceptRanges), ("strconv.ErrRange", laid_strconv_ErrRange), ("strconv.ErrSyntax", laid_strconv_ErrSyntax), ("curfew/code.shapes", laid_curfew_code_shapes), ("curfew/code.names", laid_curfew_code_names), ("unicode/utf8.first", laid_unicode_utf8_first)], narrowed := true }
def CodesBackUptoSaid : Prop := codesBackUptoRow.holds Tryd.pinned (OpenSpec.upto codesBackSpec)

/-- 'curfewkeep.CodesBad', WHERE WHAT IT READS IS OF BULK AT MOST 1048576: true; the input reads as it did. -/
def codesBadUptoRow : OpenClaim := { program := "ytdjamdbamkhblacdoor", sum := "bbe39c18a0dff4ffad72abd6f579954a89a04b98f75ca4588eeb643faf790e7c", func := "curfew/curfewkeep.CodesBad", spec := "codesBad", inPlace := ["internal/abi.NoEscape", "internal/bytealg.IndexByteString", "internal/bytealg.IndexString", "internal/bytealg.CountString", "internal/bytealg.MakeNoZero"], named := ["curfew/code.names", "curfew/code.shapes", "internal/strconv.uint64pow10", "math/bits.deBruijn32tab", "math/bits.deBruijn64tab", "internal/bytealg.MaxLen", "unicode/utf8.first", "unicode/utf8.acceptRanges", "strconv.ErrSyntax", "strconv.ErrRange"], apart := false, laid := [("math/bits.deBruijn32tab", laid_math_bits_deBruijn32tab), ("math/bits.deBruijn64tab", laid_math_bits_deBruijn64tab), ("internal/strconv.uint64pow10", laid_internal_strconv_uint64pow10), ("unicode/utf8.acceptRanges", laid_unicode_utf8_acceptRanges), ("strconv.ErrRange", laid_strconv_ErrRange), ("strconv.ErrSyntax", laid_strconv_ErrSyntax), ("curfew/code.shapes", laid_curfew_code_shapes), ("curfew/code.names", laid_curfew_code_names), ("unicode/utf8.first", laid_unicode_utf8_first)], narrowed := true }
def CodesBadUptoSaid : Prop := codesBadUptoRow.holds Tryd.pinned (OpenSpec.upto codesBadSpec)

/-- 'curfewtop.TopApart', WHERE WHAT IT READS IS OF BULK AT MOST 1048576: true; the input reads as it did. -/
def topApartUptoRow : OpenClaim := { program := "ytdjamdbamkhblacdoor", sum := "bbe39c18a0dff4ffad72abd6f579954a89a04b98f75ca4588eeb643faf790e7c", func := "curfew/curfewtop.TopApart", spec := "topApart", unfollowed := true, recurses := true, named := ["curfew/code.shapes"], apart := false, laid := [("curfew/code.shapes", laid_curfew_code_shapes)], narrowed := true }
def TopApartUptoSaid : Prop := topApartUptoRow.holds Tryd.pinned (OpenSpec.upto topApartSpec)

/-- 'curfewtop.TopTwice', WHERE WHAT IT READS IS OF BULK AT MOST 1048576: true; the input reads as it did. -/
def topTwiceUptoRow : OpenClaim := { program := "ytdjamdbamkhblacdoor", sum := "bbe39c18a0dff4ffad72abd6f579954a89a04b98f75ca4588eeb643faf790e7c", func := "curfew/curfewtop.TopTwice", spec := "topTwice", unfollowed := true, recurses := true, named := ["curfew/code.shapes"], apart := false, laid := [("curfew/code.shapes", laid_curfew_code_shapes)], narrowed := true }
def TopTwiceUptoSaid : Prop := topTwiceUptoRow.holds Tryd.pinned (OpenSpec.upto topTwiceSpec)

/-- 'curfewtop.TopQuiet', WHERE WHAT IT READS IS OF BULK AT MOST 1048576: true; the input reads as it did. -/
def topQuietUptoRow : OpenClaim := { program := "ytdjamdbamkhblacdoor", sum := "bbe39c18a0dff4ffad72abd6f579954a89a04b98f75ca4588eeb643faf790e7c", func := "curfew/curfewtop.TopQuiet", spec := "topQuiet", unfollowed := true, recurses := true, named := ["curfew/code.shapes"], apart := false, laid := [("curfew/code.shapes", laid_curfew_code_shapes)], narrowed := true }
def TopQuietUptoSaid : Prop := topQuietUptoRow.holds Tryd.pinned (OpenSpec.upto topQuietSpec)

end Rows
end Go.Proofs.YtdjamdbamkhblacDoor
