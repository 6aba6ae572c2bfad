/- The five tables that the card of CodeShows lists. -/
import Derived.Test.YtdjamdbamkhblabDoorLaidT
namespace Go.Proofs.YtdjamdbamkhblabDoor
open Go.RowKit
theorem tab_of_laid {W : World} (h : laidMet Tryd.prog [("math/bits.deBruijn32tab", Rows.laid_math_bits_deBruijn32tab), ("math/bits.deBruijn64tab", Rows.laid_math_bits_deBruijn64tab), ("internal/strconv.uint64pow10", Rows.laid_internal_strconv_uint64pow10), ("curfew/code.shapes", Rows.laid_curfew_code_shapes), ("curfew/code.names", Rows.laid_curfew_code_names)] W) : TabT W :=
  ⟨tab_shapes h.tail.tail.tail, tab_names h.tail.tail.tail.tail, tab_pow h.tail.tail⟩
/-- A world for the witness: the settled one, the tables holding what their initialisers lay. -/
noncomputable def laidWorld (os : Os) : World :=
  layIn (layIn (layIn (layIn (layIn (World.holding Tryd.prog os ⟨#[], #[], []⟩) 3 Rows.laid_math_bits_deBruijn32tab) 4 Rows.laid_math_bits_deBruijn64tab) 2 Rows.laid_internal_strconv_uint64pow10) 1 Rows.laid_curfew_code_shapes) 0 Rows.laid_curfew_code_names
end Go.Proofs.YtdjamdbamkhblabDoor
