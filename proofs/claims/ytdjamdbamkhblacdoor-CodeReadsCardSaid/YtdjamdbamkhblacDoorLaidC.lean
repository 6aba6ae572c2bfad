/- The variables that the cards of CodeReads, CodesBack and CodesBad list; and a world in which they lie. -/
import Derived.Test.YtdjamdbamkhblacDoorLaidT
import Derived.Test.YtdjamdbamkhblacDoorEnvT
import Derived.Shelf.Vars
namespace Go.Proofs.YtdjamdbamkhblacDoor
set_option linter.unusedVariables false
set_option linter.unusedSimpArgs false
open Go.RowKit
theorem star_es : "*" ++ "errors.errorString" = "*errors.errorString" := by decide
theorem row_es (u : TypeId) (h : Tryd.prog.typeName? 3 u = some "*errors.errorString") : u = 239 :=
  typeName_ptr_named (nm := "errors.errorString") (by rw [star_es]; kernel_rfl) (by kernel_rfl) (by decide) u (by rw [star_es]; exact h)
theorem sent_syntax {W : World} {r : List (String × DataW Unit)} (h : laidMet Tryd.prog (("strconv.ErrSyntax", Rows.laid_strconv_ErrSyntax) :: r) W) : VarE "strconv.ErrSyntax" 4 W := by
  obtain ⟨a, s, hv, _⟩ := laid_sentinel (g := 4) (ti := 117) (tp := 239) (te := 241) (ts := 9) h (by kernel_rfl) (by kernel_rfl) Tryd.underlying117 row_es Tryd.underlying239 Tryd.underlying241 rfl rfl Tryd.underlying9 (by kernel_rfl) (by kernel_rfl)
  exact ⟨World.block_lt_of_cell? W _ (World.var?_cell (by kernel_rfl) hv 0), _, _, hv⟩
theorem sent_range {W : World} {r : List (String × DataW Unit)} (h : laidMet Tryd.prog (("strconv.ErrRange", Rows.laid_strconv_ErrRange) :: r) W) : VarE "strconv.ErrRange" 5 W := by
  obtain ⟨a, s, hv, _⟩ := laid_sentinel (g := 5) (ti := 117) (tp := 239) (te := 241) (ts := 9) h (by kernel_rfl) (by kernel_rfl) Tryd.underlying117 row_es Tryd.underlying239 Tryd.underlying241 rfl rfl Tryd.underlying9 (by kernel_rfl) (by kernel_rfl)
  exact ⟨World.block_lt_of_cell? W _ (World.var?_cell (by kernel_rfl) hv 0), _, _, hv⟩
theorem max_of {W : World} (h : W.ShapedOpen Tryd.prog) : MaxL W := by
  obtain ⟨m, hm⟩ := cell_of_shapedOpen_int (g := 2) (zero := #[.int .i64 0]) (t := 3) h (of_decide_eq_true (by kernel_rfl)) (by kernel_rfl) rfl (by kernel_rfl) (by kernel_rfl) Tryd.underlying3
  exact ⟨World.block_lt_of_cell? W _ hm, m, hm⟩
theorem env_of_laid {W : World} (h : laidMet Tryd.prog [("math/bits.deBruijn32tab", Rows.laid_math_bits_deBruijn32tab), ("math/bits.deBruijn64tab", Rows.laid_math_bits_deBruijn64tab), ("internal/strconv.uint64pow10", Rows.laid_internal_strconv_uint64pow10), ("unicode/utf8.acceptRanges", Rows.laid_unicode_utf8_acceptRanges), ("strconv.ErrRange", Rows.laid_strconv_ErrRange), ("strconv.ErrSyntax", Rows.laid_strconv_ErrSyntax), ("curfew/code.shapes", Rows.laid_curfew_code_shapes), ("curfew/code.names", Rows.laid_curfew_code_names), ("unicode/utf8.first", Rows.laid_unicode_utf8_first)] W) (hs : W.ShapedOpen Tryd.prog) : EnvT W :=
  ⟨⟨tab_shapes h.tail.tail.tail.tail.tail.tail, tab_names h.tail.tail.tail.tail.tail.tail.tail, tab_pow h.tail.tail⟩, max_of hs, sent_syntax h.tail.tail.tail.tail.tail, sent_range h.tail.tail.tail.tail⟩
/-- A struct's cells in a table. -/
def cellsOfR : DataW Unit → List Value
  | .agg l => l.flatMap cellsOfD
  | _ => []
def layCs (w : World) (g : Nat) (cs : List Value) : World :=
  { w with heap := w.heap.modify g fun
      | .cells _ t frozen => .cells cs.toArray t frozen
      | o => o }
def textOf : DataW Unit → List UInt8
  | .iface _ (.ptr (.agg [.lit (.string s)])) => s
  | _ => []
/-- A sentinel: a new block that holds its text, the variable pointing there. -/
def laySent (w : World) (g : Nat) (d : DataW Unit) : World :=
  layCs (w.alloc (.cells #[.string ⟨(textOf d).toArray⟩] 241)) g [.iface 239 (.pointer (some ⟨w.heap.size, 0, none⟩))]
/-- A world for the witness: the settled one, the variables holding what their initialisers lay. -/
noncomputable def laidWorld (os : Os) : World :=
  laySent (laySent (layCs (layIn (layIn (layIn (layIn (layIn (layIn (World.holding Tryd.prog os ⟨#[], #[], []⟩) 8 Rows.laid_math_bits_deBruijn32tab) 9 Rows.laid_math_bits_deBruijn64tab) 3 Rows.laid_internal_strconv_uint64pow10) 1 Rows.laid_curfew_code_shapes) 0 Rows.laid_curfew_code_names) 6 Rows.laid_unicode_utf8_first) 7 (cellsOfR Rows.laid_unicode_utf8_acceptRanges)) 5 Rows.laid_strconv_ErrRange) 4 Rows.laid_strconv_ErrSyntax
end Go.Proofs.YtdjamdbamkhblacDoor
