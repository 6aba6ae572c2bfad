/- What the cards' proofs of this seat share: the table that the rows list, and a world in which it lies. -/
import Derived.Test.YtdjamdbamkhblabDoorLaw
import Derived.Test.YtdjamdbamkhblabDoorCode
namespace Go.Proofs.YtdjamdbamkhblabDoor
open Go.RowKit Go.WideShapes Go.ChangeShapes Go.ChangeAt Go.Deep

theorem g_shapes : Tryd.prog.globalNamed "curfew/code.shapes" = some 1 := by kernel_rfl
theorem g_shapesType : (Tryd.prog.globals[1]?).map (·.type) = some 116 := by kernel_rfl
theorem cells_shapes : Tryd.prog.cellsOf 116 = 16 := by kernel_rfl
theorem cells_string : Tryd.prog.cellsOf 9 = 1 := by kernel_rfl
def shapesL : List (List UInt8) := [[], [114, 45, 119], [114, 114, 114], [114, 114, 114], [114, 114, 114], [114, 114, 114], [114, 114, 114], [114, 114, 114], [114, 114, 45], [114, 114, 45], [45, 45, 112], [114, 45, 112], [45, 45, 112], [45, 45, 45], [114, 45, 45], [45, 45, 45]]
theorem tab_of_laid {W : World} (h : laidMet Tryd.prog [("curfew/code.shapes", Rows.laid_curfew_code_shapes)] W) : Tab W := by
  have hc : ∀ k : Nat, k < 16 → W.cell? ⟨1, k, none⟩ = some (.string (shp k)) := fun k hk => by
    have hz : shapesL[k]? = some (shp k).data.toList := by
      have : k = 0 ∨ k = 1 ∨ k = 2 ∨ k = 3 ∨ k = 4 ∨ k = 5 ∨ k = 6 ∨ k = 7 ∨ k = 8 ∨ k = 9 ∨ k = 10 ∨ k = 11 ∨ k = 12 ∨ k = 13 ∨ k = 14 ∨ k = 15 := by omega
      rcases this with h | h | h | h | h | h | h | h | h | h | h | h | h | h | h | h <;> subst h <;> rfl
    exact strs_of_head g_shapes g_shapesType Tryd.underlying116 Tryd.underlying9 cells_string cells_shapes (zs := shapesL) h k _ hz
  exact ⟨World.block_lt_of_cell? W _ (hc 0 (by omega)), hc⟩

/-- A world for the witness: the settled one, the table holding what its initialiser lays. -/
noncomputable def laidWorld (os : Os) : World :=
  { World.holding Tryd.prog os ⟨#[], #[], []⟩ with heap := (World.holding Tryd.prog os ⟨#[], #[], []⟩).heap.modify 1 fun
      | .cells _ t frozen => .cells (shapesL.map fun z => Value.string ⟨z.toArray⟩).toArray t frozen
      | o => o }
end Go.Proofs.YtdjamdbamkhblabDoor

