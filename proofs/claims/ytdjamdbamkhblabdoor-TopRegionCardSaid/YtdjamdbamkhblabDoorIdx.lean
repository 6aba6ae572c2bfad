/- The first place at which a predicate holds in a list: plain facts. -/
import Derived.Test.YtdjamdbamkhblabDoorBase
namespace Go.Proofs.YtdjamdbamkhblabDoor
open Go.RowKit

/-- The first place at which p holds, counted from k; -1: none. -/
def idxF {α : Type} (p : α → Bool) : List α → Nat → Int
  | [], _ => -1
  | x :: r, k => if p x then (k : Int) else idxF p r (k + 1)
theorem idxF_drop {α : Type} {p : α → Bool} {l : List α} {k : Nat} (h : k < l.length) : idxF p (l.drop k) k = if p l[k] then (k : Int) else idxF p (l.drop (k + 1)) (k + 1) := by
  rw [List.drop_eq_getElem_cons h]; rfl
theorem idxF_any {α : Type} (p : α → Bool) : ∀ (l : List α) (k : Nat), decide (0 ≤ idxF p l k) = l.any p
  | [], k => by simp [idxF]
  | x :: r, k => by
    rw [idxF, List.any_cons]
    cases hp : p x with
    | true => simp
    | false => simpa using idxF_any p r (k + 1)
theorem idxF_none {α : Type} {p : α → Bool} {l : List α} {k : Nat} (h : l.any p = false) : idxF p l k = -1 := by
  induction l generalizing k with
  | nil => rfl
  | cons x r ih =>
    simp only [List.any_cons, Bool.or_eq_false_iff] at h
    rw [idxF, h.1]
    exact ih h.2

end Go.Proofs.YtdjamdbamkhblabDoor
