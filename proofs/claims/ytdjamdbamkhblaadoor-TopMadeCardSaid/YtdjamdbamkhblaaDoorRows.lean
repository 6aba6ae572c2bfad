/-
  NARROWER THAN 'FOR EVERY INPUT', by the rows' own cells (each row's printed sentence says how): CodeChecks: laid · SafeVerifies: laid · TopMade: laid · ModuleChecks: laid · SafeMakes: laid · ModuleEncodes: laid.
  DERIVED. THE GIVEN ROWS OF THIS SEAT. 6 by the template 'for every input the law returns true; each argument reads behind the call as it read before'; 0 by the template 'total and deterministic' (their statements: YtdjamdbamkhblaaDoorTotals.lean).
  GIVEN WITH THE SEED: the statements are not yours to turn. If you find one false, say at which input.
  Laid BY PROGRAM, IN A SANDBOX (cutbox-rows.mjs): the forced cells as the released guide's own fill.sh prints them over the translation 44bd3c316967c7a4… (all of the seat's roots in one cut). By AI agents, Wed Nov 11 2026. No macro, syntax, notation, axiom, sorry.
-/
import Derived.Test.YtdjamdbamkhblaaDoorChecked
import GoSem.Claim
import GoSem.ClaimJoined
import GoSem.ClaimMapViews
import Derived.JoinedTies
import Derived.KernelRfl
namespace Go.Proofs.YtdjamdbamkhblaaDoor
/- THE CELL 'sum', in the pinned program and in every row, IS THE sha256 OF THE DUMP (.gsa) THAT YtdjamdbamkhblaaDoorProg.lean LOADS. Nothing in Lean hashes anything: it is a label: what it is worth is what the hold of that sum in a sandbox is worth. -/
noncomputable def Tryd.pinned : Pinned := { name := "ytdjamdbamkhblaadoor", sum := "44bd3c316967c7a4d5bcbb104a0fb73cdeae17b36e709dc5294092ff7dc6994e", checked := Tryd.checked }
namespace Rows
def none {H : Type} : Left H := { results := [], args := [] }

/- WHAT THE LISTED PACKAGE-LEVEL VARIABLES READ AS WHEN THE CALL BEGINS. Each datum BY PROGRAM (the guide's laid-datum.mjs) off the statement by which the dump's own 'gosem.cut.vars' lays the variable. In a bare row this is a premise. The card (YtdjamdbamkhblaaDoorCards.lean) ties it to the program's text. -/
def laid_curfew_code_shapes {H : Type} : DataW H := .agg [.lit (.string []), .lit (.string [114, 45, 119]), .lit (.string [114, 114, 114]), .lit (.string [114, 114, 114]), .lit (.string [114, 114, 114]), .lit (.string [114, 114, 114]), .lit (.string [114, 114, 114]), .lit (.string [114, 114, 114]), .lit (.string [114, 114, 45]), .lit (.string [114, 114, 45]), .lit (.string [45, 45, 112]), .lit (.string [114, 45, 112]), .lit (.string [45, 45, 112]), .lit (.string [45, 45, 45]), .lit (.string [114, 45, 45]), .lit (.string [45, 45, 45])]

/-- 'curfewlaw.CodeChecks': WHATEVER THE INPUT: true; the input reads as it did. -/
def codeChecksSpec : ChangeSpec := { name := "codeChecks", fn := fun _ => fun
  | [d] => { results := [.lit (.bool true)], args := [d] }
  | _ => none }
def codeChecksRow : OpenClaim := { program := "ytdjamdbamkhblaadoor", sum := "44bd3c316967c7a4d5bcbb104a0fb73cdeae17b36e709dc5294092ff7dc6994e", func := "curfew/curfewlaw.CodeChecks", spec := "codeChecks", named := ["curfew/code.shapes"], apart := false, laid := [("curfew/code.shapes", laid_curfew_code_shapes)] }
def CodeChecksSaid : Prop := codeChecksRow.holds Tryd.pinned (OpenSpec.ofChange codeChecksSpec)

/-- ITS FALSE NEIGHBOUR: 'it returns false'. Refute it at one input. -/
def codeChecksWrong : ChangeSpec := { name := "codeChecks", fn := fun _ => fun
  | [d] => { results := [.lit (.bool false)], args := [d] }
  | _ => none }
def CodeChecksWrongFalsely : Prop := codeChecksRow.holds Tryd.pinned (OpenSpec.ofChange codeChecksWrong)

/-- 'curfewlaw.SafeVerifies': WHATEVER THE INPUT: true; the input reads as it did. -/
def safeVerifiesSpec : ChangeSpec := { name := "safeVerifies", fn := fun _ => fun
  | [d] => { results := [.lit (.bool true)], args := [d] }
  | _ => none }
def safeVerifiesRow : OpenClaim := { program := "ytdjamdbamkhblaadoor", sum := "44bd3c316967c7a4d5bcbb104a0fb73cdeae17b36e709dc5294092ff7dc6994e", func := "curfew/curfewlaw.SafeVerifies", spec := "safeVerifies", named := ["curfew/code.shapes"], apart := false, laid := [("curfew/code.shapes", laid_curfew_code_shapes)] }
def SafeVerifiesSaid : Prop := safeVerifiesRow.holds Tryd.pinned (OpenSpec.ofChange safeVerifiesSpec)

/-- ITS FALSE NEIGHBOUR: 'it returns false'. Refute it at one input. -/
def safeVerifiesWrong : ChangeSpec := { name := "safeVerifies", fn := fun _ => fun
  | [d] => { results := [.lit (.bool false)], args := [d] }
  | _ => none }
def SafeVerifiesWrongFalsely : Prop := safeVerifiesRow.holds Tryd.pinned (OpenSpec.ofChange safeVerifiesWrong)

/-- 'curfewtop.TopMade': WHATEVER THE INPUT: true; the input reads as it did. -/
def topMadeSpec : ChangeSpec := { name := "topMade", fn := fun _ => fun
  | [d1, d2, d3] => { results := [.lit (.bool true)], args := [d1, d2, d3] }
  | _ => none }
def topMadeRow : OpenClaim := { program := "ytdjamdbamkhblaadoor", sum := "44bd3c316967c7a4d5bcbb104a0fb73cdeae17b36e709dc5294092ff7dc6994e", func := "curfew/curfewtop.TopMade", spec := "topMade", unfollowed := true, recurses := true, named := ["curfew/code.shapes"], apart := false, laid := [("curfew/code.shapes", laid_curfew_code_shapes)] }
def TopMadeSaid : Prop := topMadeRow.holds Tryd.pinned (OpenSpec.ofChange topMadeSpec)

/-- ITS FALSE NEIGHBOUR: 'it returns false'. Refute it at one input. -/
def topMadeWrong : ChangeSpec := { name := "topMade", fn := fun _ => fun
  | [d1, d2, d3] => { results := [.lit (.bool false)], args := [d1, d2, d3] }
  | _ => none }
def TopMadeWrongFalsely : Prop := topMadeRow.holds Tryd.pinned (OpenSpec.ofChange topMadeWrong)

/-- 'curfewlaw.ModuleChecks': WHATEVER THE INPUT: true; the input reads as it did. -/
def moduleChecksSpec : ChangeSpec := { name := "moduleChecks", fn := fun _ => fun
  | [d] => { results := [.lit (.bool true)], args := [d] }
  | _ => none }
def moduleChecksRow : OpenClaim := { program := "ytdjamdbamkhblaadoor", sum := "44bd3c316967c7a4d5bcbb104a0fb73cdeae17b36e709dc5294092ff7dc6994e", func := "curfew/curfewlaw.ModuleChecks", spec := "moduleChecks", unfollowed := true, recurses := true, named := ["curfew/code.shapes"], apart := false, laid := [("curfew/code.shapes", laid_curfew_code_shapes)] }
def ModuleChecksSaid : Prop := moduleChecksRow.holds Tryd.pinned (OpenSpec.ofChange moduleChecksSpec)

/-- ITS FALSE NEIGHBOUR: 'it returns false'. Refute it at one input. -/
def moduleChecksWrong : ChangeSpec := { name := "moduleChecks", fn := fun _ => fun
  | [d] => { results := [.lit (.bool false)], args := [d] }
  | _ => none }
def ModuleChecksWrongFalsely : Prop := moduleChecksRow.holds Tryd.pinned (OpenSpec.ofChange moduleChecksWrong)

/-- 'curfewlaw.SafeMakes': WHATEVER THE INPUT: true; the input reads as it did. -/
def safeMakesSpec : ChangeSpec := { name := "safeMakes", fn := fun _ => fun
  | [d] => { results := [.lit (.bool true)], args := [d] }
  | _ => none }
def safeMakesRow : OpenClaim := { program := "ytdjamdbamkhblaadoor", sum := "44bd3c316967c7a4d5bcbb104a0fb73cdeae17b36e709dc5294092ff7dc6994e", func := "curfew/curfewlaw.SafeMakes", spec := "safeMakes", unfollowed := true, recurses := true, named := ["curfew/code.shapes"], apart := false, laid := [("curfew/code.shapes", laid_curfew_code_shapes)] }
def SafeMakesSaid : Prop := safeMakesRow.holds Tryd.pinned (OpenSpec.ofChange safeMakesSpec)

/-- ITS FALSE NEIGHBOUR: 'it returns false'. Refute it at one input. -/
def safeMakesWrong : ChangeSpec := { name := "safeMakes", fn := fun _ => fun
  | [d] => { results := [.lit (.bool false)], args := [d] }
  | _ => none }
def SafeMakesWrongFalsely : Prop := safeMakesRow.holds Tryd.pinned (OpenSpec.ofChange safeMakesWrong)

/-- 'curfewlaw.ModuleEncodes': WHATEVER THE INPUT: true; the input reads as it did. -/
def moduleEncodesSpec : ChangeSpec := { name := "moduleEncodes", fn := fun _ => fun
  | [d] => { results := [.lit (.bool true)], args := [d] }
  | _ => none }
def moduleEncodesRow : OpenClaim := { program := "ytdjamdbamkhblaadoor", sum := "44bd3c316967c7a4d5bcbb104a0fb73cdeae17b36e709dc5294092ff7dc6994e", func := "curfew/curfewlaw.ModuleEncodes", spec := "moduleEncodes", unfollowed := true, recurses := true, named := ["curfew/code.shapes"], apart := false, laid := [("curfew/code.shapes", laid_curfew_code_shapes)] }
def ModuleEncodesSaid : Prop := moduleEncodesRow.holds Tryd.pinned (OpenSpec.ofChange moduleEncodesSpec)

/-- ITS FALSE NEIGHBOUR: 'it returns false'. Refute it at one input. -/
def moduleEncodesWrong : ChangeSpec := { name := "moduleEncodes", fn := fun _ => fun
  | [d] => { results := [.lit (.bool false)], args := [d] }
  | _ => none }
def ModuleEncodesWrongFalsely : Prop := moduleEncodesRow.holds Tryd.pinned (OpenSpec.ofChange moduleEncodesWrong)

/- THE SECOND FORM. 'bulk': how many values and letters a reading holds, each counted each time it is reached (what is shared counts as often as it is met; a slice's spare places count too). A statement '..UptoSaid' is the law's where the arguments, and the package variables that the reading takes, are together of bulk at most 1048576: NARROWER than '..Said'. Prove '..Said' where nothing that the law and all that it calls make is longer than what came in: it says more and counts as full. Else prove '..UptoSaid'. A law counts once. -/
mutual
def uptoBulk {H : Type} : DataW H → Nat
  | .lit (.string bytes) => bytes.length + 1
  | .lit _ => 1
  | .nil => 1
  | .ptr d => uptoBulk d + 1
  | .slice elems spare => uptoBulkAll elems + uptoBulkAll spare + 1
  | .agg parts => uptoBulkAll parts + 1
  | .iface _ d => uptoBulk d + 1
  | .map entries => uptoBulkEntries entries + 1
  | .held _ => 1
def uptoBulkAll {H : Type} : List (DataW H) → Nat
  | [] => 0
  | d :: r => uptoBulk d + uptoBulkAll r
def uptoBulkEntries {H : Type} : List (Lit × DataW H) → Nat
  | [] => 0
  | x :: r => uptoBulkEntry x + uptoBulkEntries r
def uptoBulkEntry {H : Type} : Lit × DataW H → Nat
  | (.string bytes, d) => bytes.length + uptoBulk d + 1
  | (_, d) => uptoBulk d + 1
 end
def uptoSmall : (H : Type) → List (DataW H) → Bool := fun _ ds => decide (uptoBulkAll ds ≤ 1048576)
def OpenSpec.upto (s : _root_.Go.ChangeSpec) : _root_.Go.OpenSpec := { _root_.Go.OpenSpec.ofChange s with cond := some uptoSmall }

/-- 'curfewlaw.CodeChecks', WHERE WHAT IT READS IS OF BULK AT MOST 1048576: true; the input reads as it did. -/
def codeChecksUptoRow : OpenClaim := { program := "ytdjamdbamkhblaadoor", sum := "44bd3c316967c7a4d5bcbb104a0fb73cdeae17b36e709dc5294092ff7dc6994e", func := "curfew/curfewlaw.CodeChecks", spec := "codeChecks", named := ["curfew/code.shapes"], apart := false, laid := [("curfew/code.shapes", laid_curfew_code_shapes)], narrowed := true }
def CodeChecksUptoSaid : Prop := codeChecksUptoRow.holds Tryd.pinned (OpenSpec.upto codeChecksSpec)

/-- 'curfewlaw.SafeVerifies', WHERE WHAT IT READS IS OF BULK AT MOST 1048576: true; the input reads as it did. -/
def safeVerifiesUptoRow : OpenClaim := { program := "ytdjamdbamkhblaadoor", sum := "44bd3c316967c7a4d5bcbb104a0fb73cdeae17b36e709dc5294092ff7dc6994e", func := "curfew/curfewlaw.SafeVerifies", spec := "safeVerifies", named := ["curfew/code.shapes"], apart := false, laid := [("curfew/code.shapes", laid_curfew_code_shapes)], narrowed := true }
def SafeVerifiesUptoSaid : Prop := safeVerifiesUptoRow.holds Tryd.pinned (OpenSpec.upto safeVerifiesSpec)

/-- 'curfewtop.TopMade', WHERE WHAT IT READS IS OF BULK AT MOST 1048576: true; the input reads as it did. -/
def topMadeUptoRow : OpenClaim := { program := "ytdjamdbamkhblaadoor", sum := "44bd3c316967c7a4d5bcbb104a0fb73cdeae17b36e709dc5294092ff7dc6994e", func := "curfew/curfewtop.TopMade", spec := "topMade", unfollowed := true, recurses := true, named := ["curfew/code.shapes"], apart := false, laid := [("curfew/code.shapes", laid_curfew_code_shapes)], narrowed := true }
def TopMadeUptoSaid : Prop := topMadeUptoRow.holds Tryd.pinned (OpenSpec.upto topMadeSpec)

/-- 'curfewlaw.ModuleChecks', WHERE WHAT IT READS IS OF BULK AT MOST 1048576: true; the input reads as it did. -/
def moduleChecksUptoRow : OpenClaim := { program := "ytdjamdbamkhblaadoor", sum := "44bd3c316967c7a4d5bcbb104a0fb73cdeae17b36e709dc5294092ff7dc6994e", func := "curfew/curfewlaw.ModuleChecks", spec := "moduleChecks", unfollowed := true, recurses := true, named := ["curfew/code.shapes"], apart := false, laid := [("curfew/code.shapes", laid_curfew_code_shapes)], narrowed := true }
def ModuleChecksUptoSaid : Prop := moduleChecksUptoRow.holds Tryd.pinned (OpenSpec.upto moduleChecksSpec)

/-- 'curfewlaw.SafeMakes', WHERE WHAT IT READS IS OF BULK AT MOST 1048576: true; the input reads as it did. -/
def safeMakesUptoRow : OpenClaim := { program := "ytdjamdbamkhblaadoor", sum := "44bd3c316967c7a4d5bcbb104a0fb73cdeae17b36e709dc5294092ff7dc6994e", func := "curfew/curfewlaw.SafeMakes", spec := "safeMakes", unfollowed := true, recurses := true, named := ["curfew/code.shapes"], apart := false, laid := [("curfew/code.shapes", laid_curfew_code_shapes)], narrowed := true }
def SafeMakesUptoSaid : Prop := safeMakesUptoRow.holds Tryd.pinned (OpenSpec.upto safeMakesSpec)

/-- 'curfewlaw.ModuleEncodes', WHERE WHAT IT READS IS OF BULK AT MOST 1048576: true; the input reads as it did. -/
def moduleEncodesUptoRow : OpenClaim := { program := "ytdjamdbamkhblaadoor", sum := "44bd3c316967c7a4d5bcbb104a0fb73cdeae17b36e709dc5294092ff7dc6994e", func := "curfew/curfewlaw.ModuleEncodes", spec := "moduleEncodes", unfollowed := true, recurses := true, named := ["curfew/code.shapes"], apart := false, laid := [("curfew/code.shapes", laid_curfew_code_shapes)], narrowed := true }
def ModuleEncodesUptoSaid : Prop := moduleEncodesUptoRow.holds Tryd.pinned (OpenSpec.upto moduleEncodesSpec)

end Rows
end Go.Proofs.YtdjamdbamkhblaaDoor
