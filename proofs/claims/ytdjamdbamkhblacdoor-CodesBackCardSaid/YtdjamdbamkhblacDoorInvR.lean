/- Small words for the use of wp_region_inv: no condition. -/
import Derived.Test.YtdjamdbamkhblacDoorInv
import Derived.Test.YtdjamdbamkhblacDoorRd
import Derived.Test.YtdjamdbamkhblacDoorBlk
namespace Go.Proofs.YtdjamdbamkhblacDoor
open Go.RowKit
theorem waitsR {l : Array Bool} {j : Nat} (h : l[j]?.getD false = true) : l.getD j true = true := by
  rw [Array.getD_eq_getD_getElem?]
  cases hj : l[j]? with
  | none => rfl
  | some b => rw [hj] at h; exact h
theorem upeqR {l : Array Bool} {i j : Nat} (h : i ≠ j) : (l.setIfInBounds i true).getD j true = l.getD j true := by rw [listed_set]; simp [h]
theorem upneR {l : Array Bool} {i j : Nat} (h : i ≠ j) (x : (l.setIfInBounds i true).getD j true = true) : l.getD j true = true := by rw [upeqR h] at x; exact x
theorem upselfR {l : Array Bool} {i : Nat} : (l.setIfInBounds i true).getD i true = true := by rw [listed_set]; simp
section
variable {P : Program} (w : World)
end
/-- The region of that number. -/
def regAt (id : Nat) : Code → Option Code
  | .region i ops d => if i = id then some (.region i ops d) else none
  | .seq a b => match regAt id a with
    | some c => some c
    | none => regAt id b
  | .loop c => regAt id c
  | .block _ c => regAt id c
  | .scope c => regAt id c
  | .cond _ a b => match regAt id a with
    | some c => some c
    | none => regAt id b
  | _ => none
end Go.Proofs.YtdjamdbamkhblacDoor
