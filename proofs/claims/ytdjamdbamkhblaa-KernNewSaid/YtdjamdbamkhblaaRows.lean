/-
  No cell of these rows narrows 'for every input' (looked for: loops, veiled, ifaces, maps, wideKeys, modest, calm, conditions, laid).
  DERIVED. THE GIVEN ROWS OF THIS SEAT. 6 by the template 'for every input the law returns true; each argument reads behind the call as it read before'; 0 by the template 'total and deterministic' (their statements: YtdjamdbamkhblaaTotals.lean).
  GIVEN WITH THE SEED: the statements are not yours to turn. If you find one false, say at which input.
  Laid BY PROGRAM, IN A SANDBOX (cutbox-rows.mjs): the forced cells as the released guide's own fill.sh prints them over the translation bbf479f192371c2a… (all of the seat's roots in one cut). By AI agents, Wed Nov 11 2026. No macro, syntax, notation, axiom, sorry.
-/
import Derived.Test.YtdjamdbamkhblaaChecked
import GoSem.Claim
import GoSem.ClaimJoined
import GoSem.ClaimMapViews
import Derived.JoinedTies
import Derived.KernelRfl
namespace Go.Proofs.Ytdjamdbamkhblaa
/- THE CELL 'sum', in the pinned program and in every row, IS THE sha256 OF THE DUMP (.gsa) THAT YtdjamdbamkhblaaProg.lean LOADS. Nothing in Lean hashes anything: it is a label: what it is worth is what the hold of that sum in a sandbox is worth. -/
noncomputable def Try.pinned : Pinned := { name := "ytdjamdbamkhblaa", sum := "bbf479f192371c2a82446ad9d1330c35e6eb6cf1f76072d91ff5d64c855964ab", checked := Try.checked }
namespace Rows
def none {H : Type} : Left H := { results := [], args := [] }

/-- 'curfewlaw.Names': WHATEVER THE INPUT: true; the input reads as it did. -/
def namesSpec : ChangeSpec := { name := "names", fn := fun _ => fun
  | [] => { results := [.lit (.bool true)], args := [] }
  | _ => none }
def namesRow : OpenClaim := { program := "ytdjamdbamkhblaa", sum := "bbf479f192371c2a82446ad9d1330c35e6eb6cf1f76072d91ff5d64c855964ab", func := "curfew/curfewlaw.Names", spec := "names", apart := false }
def NamesSaid : Prop := namesRow.holds Try.pinned (OpenSpec.ofChange namesSpec)

/-- ITS FALSE NEIGHBOUR: 'it returns false'. Refute it at one input. -/
def namesWrong : ChangeSpec := { name := "names", fn := fun _ => fun
  | [] => { results := [.lit (.bool false)], args := [] }
  | _ => none }
def NamesWrongFalsely : Prop := namesRow.holds Try.pinned (OpenSpec.ofChange namesWrong)

/-- 'curfewlaw.SafeEnters': WHATEVER THE INPUT: true; the input reads as it did. -/
def safeEntersSpec : ChangeSpec := { name := "safeEnters", fn := fun _ => fun
  | [d1, d2] => { results := [.lit (.bool true)], args := [d1, d2] }
  | _ => none }
def safeEntersRow : OpenClaim := { program := "ytdjamdbamkhblaa", sum := "bbf479f192371c2a82446ad9d1330c35e6eb6cf1f76072d91ff5d64c855964ab", func := "curfew/curfewlaw.SafeEnters", spec := "safeEnters", apart := false }
def SafeEntersSaid : Prop := safeEntersRow.holds Try.pinned (OpenSpec.ofChange safeEntersSpec)

/-- ITS FALSE NEIGHBOUR: 'it returns false'. Refute it at one input. -/
def safeEntersWrong : ChangeSpec := { name := "safeEnters", fn := fun _ => fun
  | [d1, d2] => { results := [.lit (.bool false)], args := [d1, d2] }
  | _ => none }
def SafeEntersWrongFalsely : Prop := safeEntersRow.holds Try.pinned (OpenSpec.ofChange safeEntersWrong)

/-- 'curfewlaw.KernNew': WHATEVER THE INPUT: true; the input reads as it did. -/
def kernNewSpec : ChangeSpec := { name := "kernNew", fn := fun _ => fun
  | [] => { results := [.lit (.bool true)], args := [] }
  | _ => none }
def kernNewRow : OpenClaim := { program := "ytdjamdbamkhblaa", sum := "bbf479f192371c2a82446ad9d1330c35e6eb6cf1f76072d91ff5d64c855964ab", func := "curfew/curfewlaw.KernNew", spec := "kernNew", apart := false }
def KernNewSaid : Prop := kernNewRow.holds Try.pinned (OpenSpec.ofChange kernNewSpec)

/-- ITS FALSE NEIGHBOUR: 'it returns false'. Refute it at one input. -/
def kernNewWrong : ChangeSpec := { name := "kernNew", fn := fun _ => fun
  | [] => { results := [.lit (.bool false)], args := [] }
  | _ => none }
def KernNewWrongFalsely : Prop := kernNewRow.holds Try.pinned (OpenSpec.ofChange kernNewWrong)

/-- 'curfewlaw.ModuleCopies': WHATEVER THE INPUT: true; the input reads as it did. -/
def moduleCopiesSpec : ChangeSpec := { name := "moduleCopies", fn := fun _ => fun
  | [d] => { results := [.lit (.bool true)], args := [d] }
  | _ => none }
def moduleCopiesRow : OpenClaim := { program := "ytdjamdbamkhblaa", sum := "bbf479f192371c2a82446ad9d1330c35e6eb6cf1f76072d91ff5d64c855964ab", func := "curfew/curfewlaw.ModuleCopies", spec := "moduleCopies", apart := false }
def ModuleCopiesSaid : Prop := moduleCopiesRow.holds Try.pinned (OpenSpec.ofChange moduleCopiesSpec)

/-- ITS FALSE NEIGHBOUR: 'it returns false'. Refute it at one input. -/
def moduleCopiesWrong : ChangeSpec := { name := "moduleCopies", fn := fun _ => fun
  | [d] => { results := [.lit (.bool false)], args := [d] }
  | _ => none }
def ModuleCopiesWrongFalsely : Prop := moduleCopiesRow.holds Try.pinned (OpenSpec.ofChange moduleCopiesWrong)

/-- 'curfewlaw.ModuleNames': WHATEVER THE INPUT: true; the input reads as it did. -/
def moduleNamesSpec : ChangeSpec := { name := "moduleNames", fn := fun _ => fun
  | [d] => { results := [.lit (.bool true)], args := [d] }
  | _ => none }
def moduleNamesRow : OpenClaim := { program := "ytdjamdbamkhblaa", sum := "bbf479f192371c2a82446ad9d1330c35e6eb6cf1f76072d91ff5d64c855964ab", func := "curfew/curfewlaw.ModuleNames", spec := "moduleNames", unfollowed := true, recurses := true, apart := false }
def ModuleNamesSaid : Prop := moduleNamesRow.holds Try.pinned (OpenSpec.ofChange moduleNamesSpec)

/-- ITS FALSE NEIGHBOUR: 'it returns false'. Refute it at one input. -/
def moduleNamesWrong : ChangeSpec := { name := "moduleNames", fn := fun _ => fun
  | [d] => { results := [.lit (.bool false)], args := [d] }
  | _ => none }
def ModuleNamesWrongFalsely : Prop := moduleNamesRow.holds Try.pinned (OpenSpec.ofChange moduleNamesWrong)

/-- 'curfewlaw.KernCopies': WHATEVER THE INPUT: true; the input reads as it did. -/
def kernCopiesSpec : ChangeSpec := { name := "kernCopies", fn := fun _ => fun
  | [d] => { results := [.lit (.bool true)], args := [d] }
  | _ => none }
def kernCopiesRow : OpenClaim := { program := "ytdjamdbamkhblaa", sum := "bbf479f192371c2a82446ad9d1330c35e6eb6cf1f76072d91ff5d64c855964ab", func := "curfew/curfewlaw.KernCopies", spec := "kernCopies", apart := false }
def KernCopiesSaid : Prop := kernCopiesRow.holds Try.pinned (OpenSpec.ofChange kernCopiesSpec)

/-- ITS FALSE NEIGHBOUR: 'it returns false'. Refute it at one input. -/
def kernCopiesWrong : ChangeSpec := { name := "kernCopies", fn := fun _ => fun
  | [d] => { results := [.lit (.bool false)], args := [d] }
  | _ => none }
def KernCopiesWrongFalsely : Prop := kernCopiesRow.holds Try.pinned (OpenSpec.ofChange kernCopiesWrong)

/- THE SECOND FORM. 'bulk': how many values and letters a reading holds, each counted each time it is reached (what is shared counts as often as it is met; a slice's spare places count too). A statement '..UptoSaid' is the law's where the arguments, and the package variables that the reading takes, are together of bulk at most 1048576: NARROWER than '..Said'. Prove '..Said' where nothing that the law and all that it calls make is longer than what came in: it says more and counts as full. Else prove '..UptoSaid'. A law counts once. -/
mutual
def uptoBulk {H : Type} : DataW H → Nat
  | .lit (.string bytes) => bytes.length + 1
  | .lit _ => 1
  | .nil => 1
  | .ptr d => uptoBulk d + 1
  | .slice elems spare => uptoBulkAll elems + uptoBulkAll spare + 1
  | .agg parts => uptoBulkAll parts + 1
  | .iface _ d => uptoBulk d + 1
  | .map entries => uptoBulkEntries entries + 1
  | .held _ => 1
def uptoBulkAll {H : Type} : List (DataW H) → Nat
  | [] => 0
  | d :: r => uptoBulk d + uptoBulkAll r
def uptoBulkEntries {H : Type} : List (Lit × DataW H) → Nat
  | [] => 0
  | x :: r => uptoBulkEntry x + uptoBulkEntries r
def uptoBulkEntry {H : Type} : Lit × DataW H → Nat
  | (.string bytes, d) => bytes.length + uptoBulk d + 1
  | (_, d) => uptoBulk d + 1
 end
def uptoSmall : (H : Type) → List (DataW H) → Bool := fun _ ds => decide (uptoBulkAll ds ≤ 1048576)
def OpenSpec.upto (s : _root_.Go.ChangeSpec) : _root_.Go.OpenSpec := { _root_.Go.OpenSpec.ofChange s with cond := some uptoSmall }

/-- 'curfewlaw.Names', WHERE WHAT IT READS IS OF BULK AT MOST 1048576: true; the input reads as it did. -/
def namesUptoRow : OpenClaim := { program := "ytdjamdbamkhblaa", sum := "bbf479f192371c2a82446ad9d1330c35e6eb6cf1f76072d91ff5d64c855964ab", func := "curfew/curfewlaw.Names", spec := "names", apart := false, narrowed := true }
def NamesUptoSaid : Prop := namesUptoRow.holds Try.pinned (OpenSpec.upto namesSpec)

/-- 'curfewlaw.SafeEnters', WHERE WHAT IT READS IS OF BULK AT MOST 1048576: true; the input reads as it did. -/
def safeEntersUptoRow : OpenClaim := { program := "ytdjamdbamkhblaa", sum := "bbf479f192371c2a82446ad9d1330c35e6eb6cf1f76072d91ff5d64c855964ab", func := "curfew/curfewlaw.SafeEnters", spec := "safeEnters", apart := false, narrowed := true }
def SafeEntersUptoSaid : Prop := safeEntersUptoRow.holds Try.pinned (OpenSpec.upto safeEntersSpec)

/-- 'curfewlaw.KernNew', WHERE WHAT IT READS IS OF BULK AT MOST 1048576: true; the input reads as it did. -/
def kernNewUptoRow : OpenClaim := { program := "ytdjamdbamkhblaa", sum := "bbf479f192371c2a82446ad9d1330c35e6eb6cf1f76072d91ff5d64c855964ab", func := "curfew/curfewlaw.KernNew", spec := "kernNew", apart := false, narrowed := true }
def KernNewUptoSaid : Prop := kernNewUptoRow.holds Try.pinned (OpenSpec.upto kernNewSpec)

/-- 'curfewlaw.ModuleCopies', WHERE WHAT IT READS IS OF BULK AT MOST 1048576: true; the input reads as it did. -/
def moduleCopiesUptoRow : OpenClaim := { program := "ytdjamdbamkhblaa", sum := "bbf479f192371c2a82446ad9d1330c35e6eb6cf1f76072d91ff5d64c855964ab", func := "curfew/curfewlaw.ModuleCopies", spec := "moduleCopies", apart := false, narrowed := true }
def ModuleCopiesUptoSaid : Prop := moduleCopiesUptoRow.holds Try.pinned (OpenSpec.upto moduleCopiesSpec)

/-- 'curfewlaw.ModuleNames', WHERE WHAT IT READS IS OF BULK AT MOST 1048576: true; the input reads as it did. -/
def moduleNamesUptoRow : OpenClaim := { program := "ytdjamdbamkhblaa", sum := "bbf479f192371c2a82446ad9d1330c35e6eb6cf1f76072d91ff5d64c855964ab", func := "curfew/curfewlaw.ModuleNames", spec := "moduleNames", unfollowed := true, recurses := true, apart := false, narrowed := true }
def ModuleNamesUptoSaid : Prop := moduleNamesUptoRow.holds Try.pinned (OpenSpec.upto moduleNamesSpec)

/-- 'curfewlaw.KernCopies', WHERE WHAT IT READS IS OF BULK AT MOST 1048576: true; the input reads as it did. -/
def kernCopiesUptoRow : OpenClaim := { program := "ytdjamdbamkhblaa", sum := "bbf479f192371c2a82446ad9d1330c35e6eb6cf1f76072d91ff5d64c855964ab", func := "curfew/curfewlaw.KernCopies", spec := "kernCopies", apart := false, narrowed := true }
def KernCopiesUptoSaid : Prop := kernCopiesUptoRow.holds Try.pinned (OpenSpec.upto kernCopiesSpec)

end Rows
end Go.Proofs.Ytdjamdbamkhblaa
