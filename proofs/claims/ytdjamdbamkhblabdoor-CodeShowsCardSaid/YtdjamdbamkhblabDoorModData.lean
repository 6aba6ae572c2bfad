/- A module, as plain data and as a value in memory. -/
import Derived.Test.YtdjamdbamkhblabDoorLaw
namespace Go.Proofs.YtdjamdbamkhblabDoor
open Go.RowKit

/-- A module. -/
structure Mod where
  name : ByteArray
  code : List Ins
  data : List Int
/-- The value v reads as the module m. -/
def ModVal (W : World) (v : Value) (m : Mod) : Prop :=
  ∃ (A : Option Addr) (c : Nat) (A' : Option Addr) (c' : Nat), v = .agg #[.string m.name, .slice A m.code.length c, .slice A' m.data.length c'] ∧ m.name.size ≤ maxLen ∧ m.code.length ≤ c ∧ c ≤ maxLen ∧ m.data.length ≤ c' ∧ c' ≤ maxLen ∧
    RdI W W.heap.size A m.code ∧ RdN W W.heap.size A' m.data ∧ (∀ i ∈ m.code, i.wf) ∧ ∀ n ∈ m.data, wf64 n
end Go.Proofs.YtdjamdbamkhblabDoor
