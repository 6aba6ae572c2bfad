/- From rows of the call's own to what reads as lists: no condition. -/
import Derived.Test.YtdjamdbamkhblaaModCopy
namespace Go.Proofs.Ytdjamdbamkhblaa
open Go.RowKit

theorem Rd.of_own {w : World} {base : Nat} {e : TypeId} {size n c : Nat} {A : Option Addr} {xs : List Value} (h : w.ownsRow base e size (.slice A n c) n xs) : Rd w w.heap.size size A n xs := by
  refine ⟨h.1, fun hn => ?_⟩
  obtain ⟨g, cap, hv, _, hlt⟩ := h.form hn
  have hA : A = some ⟨g, 0, none⟩ := by injection hv
  subst hA
  refine ⟨g, 0, rfl, hlt, fun j u hu => ?_⟩
  have := h.cells (g := g) rfl j u hu
  rwa [add_plain] at this
theorem RdI.of {w : World} {B : Nat} {A : Option Addr} {l : List Ins} (h : Rd w B 4 A l.length (insCells l)) : RdI w B A l := fun hl => by
  obtain ⟨b, o, e, hb, hc⟩ := h.2 hl
  refine ⟨b, o, e, hb, fun k hk => ?_⟩
  obtain ⟨x0, x1, x2, x3⟩ := insCells_at l k hk
  exact ⟨hc _ _ x0, hc _ _ x1, hc _ _ x2, hc _ _ x3⟩
theorem RdN.of {w : World} {B : Nat} {A : Option Addr} {l : List Int} (h : Rd w B 1 A l.length (intCells l)) : RdN w B A l := fun hl => by
  obtain ⟨b, o, e, hb, hc⟩ := h.2 hl
  exact ⟨b, o, e, hb, fun k hk => hc _ _ (intCells_at l k hk)⟩
end Go.Proofs.Ytdjamdbamkhblaa
