/- A module that came in, opened. -/
import Derived.Test.YtdjamdbamkhblaaDoorLaw
import Derived.Test.YtdjamdbamkhblaaDoorModData
namespace Go.Proofs.YtdjamdbamkhblaaDoor
open Go.RowKit Go.WideShapes Go.ChangeShapes Go.ChangeAt Go.Deep Go.Joins

theorem cells_Module : Tryd.prog.cellsOf 45 = 3 := by kernel_rfl
section
variable {H : Type} {enc : TypeId × Value → H}
theorem open_module {W : World} {base : Nat} {spare : Nat → Bool} {held : Bool} {v : Value} {d : DataW H} {p : List MemPlace} {r : Reach} {b0 : Nat}
    (hv : Value.okWide Tryd.prog W r b0 45 v) (h : DataW.Trod enc Tryd.prog W base spare held 45 v d p) : ∃ m : Mod, ModVal W v m := by
  obtain ⟨v0, v1, v2, y0, y1, y2, n, rfl, _, _, g0, g1, g2⟩ := open_agg3 Tryd.underlying45 (by kernel_rfl) cells_Module hv h
  obtain ⟨s, e0, _, hs⟩ := DataW.trod_string Tryd.underlying9 g0
  obtain ⟨A, c, l, rfl, hlc, hcm, hnil, hr, hw⟩ := open_code' Tryd.underlying22 Tryd.underlying52 (by kernel_rfl) cells_Instr Tryd.underlying3 Tryd.underlying3 Tryd.underlying3 Tryd.underlying3 g1
  obtain ⟨A', c', l', rfl, hlc', hcm', hnil', hr', hw'⟩ := open_intlist' Tryd.underlying32 Tryd.underlying3 cells_int g2
  simp at e0
  subst e0
  exact ⟨⟨s, l, l'⟩, A, c, A', c', rfl, hs, hlc, hcm, hlc', hcm', hr, hr', hw, hw'⟩
end
end Go.Proofs.YtdjamdbamkhblaaDoor
