/- What the card of CodeShows lists: five tables; and a world in which they lie. -/
import Derived.Test.YtdjamdbamkhblacDoorLaw
import Derived.Test.YtdjamdbamkhblacDoorTabs
import Derived.Stop.LaidErr
namespace Go.Proofs.YtdjamdbamkhblacDoor
open Go.RowKit Go.WideShapes Go.ChangeShapes Go.ChangeAt Go.Deep

theorem g_shapes : Tryd.prog.globalNamed "curfew/code.shapes" = some 1 := by kernel_rfl
theorem g_shapesType : (Tryd.prog.globals[1]?).map (·.type) = some 120 := by kernel_rfl
theorem g_names : Tryd.prog.globalNamed "curfew/code.names" = some 0 := by kernel_rfl
theorem g_namesType : (Tryd.prog.globals[0]?).map (·.type) = some 120 := by kernel_rfl
theorem g_pow : Tryd.prog.globalNamed "internal/strconv.uint64pow10" = some 3 := by kernel_rfl
theorem g_powType : (Tryd.prog.globals[3]?).map (·.type) = some 221 := by kernel_rfl
theorem cells_shapes : Tryd.prog.cellsOf 120 = 16 := by kernel_rfl
theorem cells_string : Tryd.prog.cellsOf 9 = 1 := by kernel_rfl
def shapesL : List (List UInt8) := [[], [114, 45, 119], [114, 114, 114], [114, 114, 114], [114, 114, 114], [114, 114, 114], [114, 114, 114], [114, 114, 114], [114, 114, 45], [114, 114, 45], [45, 45, 112], [114, 45, 112], [45, 45, 112], [45, 45, 45], [114, 45, 45], [45, 45, 45]]
def namesL : List (List UInt8) := (List.range 16).map nmL
theorem k16 {k : Nat} (hk : k < 16) : k = 0 ∨ k = 1 ∨ k = 2 ∨ k = 3 ∨ k = 4 ∨ k = 5 ∨ k = 6 ∨ k = 7 ∨ k = 8 ∨ k = 9 ∨ k = 10 ∨ k = 11 ∨ k = 12 ∨ k = 13 ∨ k = 14 ∨ k = 15 := by omega
theorem tab_shapes {W : World} {r : List (String × DataW Unit)} (h : laidMet Tryd.prog (("curfew/code.shapes", Rows.laid_curfew_code_shapes) :: r) W) : Tab W := by
  have hc : ∀ k : Nat, k < 16 → W.cell? ⟨1, k, none⟩ = some (.string (shp k)) := fun k hk => by
    have hz : shapesL[k]? = some (shp k).data.toList := by
      rcases k16 hk with h | h | h | h | h | h | h | h | h | h | h | h | h | h | h | h <;> subst h <;> rfl
    exact strs_of_head g_shapes g_shapesType Tryd.underlying120 Tryd.underlying9 cells_string cells_shapes (zs := shapesL) h k _ hz
  exact ⟨World.block_lt_of_cell? W _ (hc 0 (by omega)), hc⟩
theorem tab_names {W : World} {r : List (String × DataW Unit)} (h : laidMet Tryd.prog (("curfew/code.names", Rows.laid_curfew_code_names) :: r) W) : TabN W := by
  have hc : ∀ k : Nat, k < 16 → W.cell? ⟨0, k, none⟩ = some (.string ⟨(nmL k).toArray⟩) := fun k hk => by
    have hz : namesL[k]? = some (nmL k) := by
      rcases k16 hk with h | h | h | h | h | h | h | h | h | h | h | h | h | h | h | h <;> subst h <;> rfl
    exact strs_of_head g_names g_namesType Tryd.underlying120 Tryd.underlying9 cells_string cells_shapes (zs := namesL) h k _ hz
  exact ⟨World.block_lt_of_cell? W _ (hc 0 (by omega)), hc⟩
theorem tab_pow {W : World} {r : List (String × DataW Unit)} (h : laidMet Tryd.prog (("internal/strconv.uint64pow10", Rows.laid_internal_strconv_uint64pow10) :: r) W) : TabW W := by
  have ht : Lib.TabIs Tryd.prog W "internal/strconv.uint64pow10" .u64 Lib.pow10Tab :=
    Lib.tabIs_of_head (n := 20) g_pow g_powType Tryd.underlying221 Tryd.underlying168 (by kernel_rfl) (by kernel_rfl) h
  exact ⟨World.block_lt_of_cell? W _ (ht.cell g_pow 0 (by decide)), ht⟩
/-- What a table's datum holds, cell by cell. -/
def cellsOfD : DataW Unit → List Value
  | .agg l => l.map fun
    | .lit (.int k z) => .int k z
    | .lit (.string s) => .string ⟨s.toArray⟩
    | _ => undef
  | _ => []
def layIn (w : World) (g : Nat) (d : DataW Unit) : World :=
  { w with heap := w.heap.modify g fun
      | .cells _ t frozen => .cells (cellsOfD d).toArray t frozen
      | o => o }
end Go.Proofs.YtdjamdbamkhblacDoor
