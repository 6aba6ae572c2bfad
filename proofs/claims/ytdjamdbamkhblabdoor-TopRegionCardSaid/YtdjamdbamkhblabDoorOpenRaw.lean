/- A struct of four integers that came in by value, opened. -/
import Derived.Test.YtdjamdbamkhblabDoorLaw
namespace Go.Proofs.YtdjamdbamkhblabDoor
open Go.RowKit Go.WideShapes Go.ChangeShapes Go.ChangeAt Go.Deep Go.Joins
section
variable {H : Type} {enc : TypeId × Value → H} {P : Program}
theorem open_four {W : World} {base : Nat} {spare : Nat → Bool} {held : Bool} {t : TypeId} {f0 f1 f2 f3 : Field} {v : Value} {d : DataW H} {p : List MemPlace} {r : Reach} {b0 : Nat}
    (ht : P.underlying t = some (.struct #[f0, f1, f2, f3])) (hone : oneCellFields P #[f0, f1, f2, f3] = true) (hC : P.cellsOf t = 4)
    (h0 : P.underlying f0.type = some (.int .i64)) (h1 : P.underlying f1.type = some (.int .i64)) (h2 : P.underlying f2.type = some (.int .i64)) (h3 : P.underlying f3.type = some (.int .i64))
    (hv : Value.okWide P W r b0 t v) (h : DataW.Trod enc P W base spare held t v d p) :
    ∃ i : Ins, v = .agg #[.int .i64 i.op, .int .i64 i.a, .int .i64 i.b, .int .i64 i.c] ∧ i.wf := by
  obtain ⟨v0, v1, v2, v3, y0, y1, y2, y3, n, rfl, _, _, g0, g1, g2, g3⟩ := open_agg4 ht hone hC hv h
  obtain ⟨n0, e0, _, w0⟩ := DataW.trod_int h0 g0
  obtain ⟨n1, e1, _, w1⟩ := DataW.trod_int h1 g1
  obtain ⟨n2, e2, _, w2⟩ := DataW.trod_int h2 g2
  obtain ⟨n3, e3, _, w3⟩ := DataW.trod_int h3 g3
  simp at e0 e1 e2 e3
  subst e0; subst e1; subst e2; subst e3
  exact ⟨⟨n0, n1, n2, n3⟩, rfl, wf64_of w0, wf64_of w1, wf64_of w2, wf64_of w3⟩
end
end Go.Proofs.YtdjamdbamkhblabDoor
