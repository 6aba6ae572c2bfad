/- A region that draws its order, whose operations only read old memory and whose callees leave old memory as it was: one walk, in the order of the text. No condition. -/
import Derived.Test.YtdjamdbamkhblacDoorBase
namespace Go.Proofs.YtdjamdbamkhblacDoor
open Go.RowKit
/-- A world that w has become, old memory as it was. -/
structure After (w : World) where
  w' : World
  h : Below w.heap.size w w'
instance (w : World) : Nonempty (After w) := ⟨⟨w, Below.refl _ w⟩⟩
theorem After.cell {w : World} (x : After w) (b o : Nat) (h : b < w.heap.size) : x.w'.cell? ⟨b, o, none⟩ = w.cell? ⟨b, o, none⟩ := x.h.cell (p := ⟨b, o, none⟩) h
theorem wp_region_calm {P : Program} {id : Nat} {Q : Exit → Act → World → Prop} {a : Act} {w : World} {l : List Oper} (hm : P.follows .mixedOrders = true) (hB : Region.lexB .any l.toArray = true)
    (h : wpQuiet P l.toArray (fun w' => ∃ x : After w, w' = x.w') (fun a' => ∀ w', (∃ x : After w, w' = x.w') → Q .normal a' w') l a) : (Code.region id l.toArray true).wp P Q a w :=
  wp_region_quiet (C := fun w' => ∃ x : After w, w' = x.w') hm hB ⟨⟨_, Below.drewN' (Below.refl _ w) 1⟩, rfl⟩ (by simpa using h)
theorem Calls.calm_same {P : Program} {f : FuncId} {args : Array Value} {w : World} {x : After w} {v : Value}
    (h : Calls P f args x.w' fun e w' => e = .returned v ∧ x.w' = w') : Calls P f args x.w' fun e w'' => e = .returned v ∧ ∃ y : After w, w'' = y.w' :=
  h.mono fun _ _ ⟨he, hb⟩ => ⟨he, ⟨x, hb.symm⟩⟩
end Go.Proofs.YtdjamdbamkhblacDoor
