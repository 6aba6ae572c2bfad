/- What a world holds of the library's variables: the words MaxLen, ErrSyntax, ErrRange; and the tables. No condition. -/
import Derived.Test.YtdjamdbamkhblacDoorTabs
import Derived.Test.YtdjamdbamkhblacDoorReadP
namespace Go.Proofs.YtdjamdbamkhblacDoor
set_option linter.unusedVariables false
set_option linter.unusedSimpArgs false
open Go.RowKit
def VarE (name : String) (g : Nat) (w : World) : Prop := g < w.heap.size ∧ ∃ tp p, w.var? Tryd.prog name = some #[.iface tp p]
theorem VarE.below {name : String} {g : Nat} {w w' : World} (hg : Tryd.prog.globalNamed name = some g) (h : VarE name g w) (hb : Below w.heap.size w w') : VarE name g w' := by
  obtain ⟨h1, tp, p, h2⟩ := h
  refine ⟨Nat.lt_of_lt_of_le h1 hb.size, tp, p, ?_⟩
  have e := hb.block _ h1
  unfold World.var? at h2 ⊢
  rw [hg] at h2 ⊢
  simp only [Option.bind_some] at h2 ⊢
  rw [e]
  exact h2
def MaxL (w : World) : Prop := 2 < w.heap.size ∧ ∃ m, w.cell? ⟨2, 0, none⟩ = some (.int .i64 m)
theorem MaxL.below {w w' : World} (h : MaxL w) (hb : Below w.heap.size w w') : MaxL w' :=
  ⟨Nat.lt_of_lt_of_le h.1 hb.size, h.2.imp fun _ hm => (hb.cell (p := ⟨_, 0, none⟩) h.1).trans hm⟩
structure EnvT (w : World) : Prop where
  tab : TabT w
  mx : MaxL w
  es : VarE "strconv.ErrSyntax" 4 w
  er : VarE "strconv.ErrRange" 5 w
theorem EnvT.below {w w' : World} (h : EnvT w) (hb : Below w.heap.size w w') : EnvT w' :=
  ⟨h.tab.below hb, h.mx.below hb, h.es.below (by kernel_rfl) hb, h.er.below (by kernel_rfl) hb⟩
end Go.Proofs.YtdjamdbamkhblacDoor
