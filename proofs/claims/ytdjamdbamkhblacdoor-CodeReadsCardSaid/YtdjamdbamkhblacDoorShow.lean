/- The walk of code.Show: what it returns, for every code. Condition: the listed tables. -/
import Derived.Test.YtdjamdbamkhblacDoorBuild
import Derived.Test.YtdjamdbamkhblacDoorTabs
import Derived.Laws.Concat
import Derived.Test.YtdjamdbamkhblacDoorShelfC
namespace Go.Proofs.YtdjamdbamkhblacDoor
open Go.RowKit
set_option linter.unusedVariables false
set_option linter.unusedSimpArgs false
theorem IsB.below {B b : Nat} {l : List UInt8} {w w' : World} (h : IsB B b l w) (hb : Below w.heap.size w w') : IsB B b l w' := by
  have key : ∀ p, Lib.BuilderAt 115 5 B b p (Lib.byteCells l) w → Lib.BuilderAt 115 5 B b p (Lib.byteCells l) w' := by
    rintro p ⟨h1, v, h2, h3, h4⟩
    have hlt : b < w.heap.size := (Array.getElem?_eq_some_iff.1 h2).1
    exact ⟨h1, v, (hb.block b hlt).trans h2, own_below h3 hb, h4⟩
  rcases h with h | h
  · exact .inl (key _ h)
  · exact .inr (key _ h)
theorem IsB.lt {B b : Nat} {l : List UInt8} {w : World} (h : IsB B b l w) : b < w.heap.size := by
  rcases h with ⟨_, v, h2, _⟩ | ⟨_, v, h2, _⟩
  · exact (Array.getElem?_eq_some_iff.1 h2).1
  · exact (Array.getElem?_eq_some_iff.1 h2).1
theorem shl_parts {q : Nat} (h1 : 1 ≤ q) (h2 : q ≤ 15) (h3 : (shp q).size = 3) : ∃ s0 s1 s2 : UInt8, shL q = [s0, s1, s2] ∧ ((shp q)[0]'(by omega)) = s0 ∧ ((shp q)[1]'(by omega)) = s1 ∧ ((shp q)[2]'(by omega)) = s2 ∧
    (s0 = 114 ∨ s0 = 45 ∨ s0 = 119 ∨ s0 = 112) ∧ (s1 = 114 ∨ s1 = 45 ∨ s1 = 119 ∨ s1 = 112) ∧ (s2 = 114 ∨ s2 = 45 ∨ s2 = 119 ∨ s2 = 112) := by
  rcases q_cases h1 h2 with h | h | h | h | h | h | h | h | h | h | h | h | h | h | h <;> subst h <;> exact ⟨_, _, _, rfl, rfl, rfl, rfl, by decide, by decide, by decide⟩
end Go.Proofs.YtdjamdbamkhblacDoor
