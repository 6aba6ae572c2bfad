/- What K.Plain makes of raw things is plain code, what is made of it is trusted, and what the law MadeSafe puts before it is not: plain mathematics. -/
import Derived.Test.YtdjamdbamkhblacDoorMadeOk
import Derived.Test.YtdjamdbamkhblacDoorPick
namespace Go.Proofs.YtdjamdbamkhblacDoor
/-- One instruction of K.Plain. -/
def plainI (n i : Nat) (r : Ins) : Ins :=
  if pick r.op 14 = 0 then ⟨1, (pick r.a 4 : Nat), 0, (pick r.c 80 : Nat)⟩
  else if pick r.op 14 = 7 ∨ pick r.op 14 = 8 then ⟨1 + (pick r.op 14 : Nat), (pick r.a 4 : Nat), (pick r.b 4 : Nat), 0⟩
  else if pick r.op 14 = 9 ∨ pick r.op 14 = 11 then (if pick r.b 9 = 0 then ⟨12, 0, 0, ((i + pick r.c (n + 1 - i) : Nat) : Int)⟩ else ⟨11, (pick r.a 4 : Nat), 0, ((i + pick r.c (n + 1 - i) : Nat) : Int)⟩)
  else if pick r.op 14 = 10 then ⟨11, (pick r.a 4 : Nat), 0, if pick r.b 12 = 0 then (pick r.c (n + 1) : Nat) else ((i + pick r.c (n + 1 - i) : Nat) : Int)⟩
  else if pick r.op 14 = 12 then (if 0 < pick r.c 3 then ⟨2, 1, 2, 3⟩ else ⟨13, 0, 0, 0⟩)
  else if pick r.op 14 = 13 then ⟨14, (pick r.a 4 : Nat), 0, 0⟩
  else ⟨1 + (pick r.op 14 : Nat), (pick r.a 4 : Nat), (pick r.b 4 : Nat), (pick r.c 4 : Nat)⟩
def plainTo (l : List Ins) (n k : Nat) : List Ins := (List.range k).map fun i => plainI n i (l.getD i default)
end Go.Proofs.YtdjamdbamkhblacDoor
