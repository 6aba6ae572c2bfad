/- The walk of K.Plain: plain code of raw things. No condition. -/
import Derived.Test.YtdjamdbamkhblacDoorPlainL
import Derived.Test.YtdjamdbamkhblacDoorLaw
import Derived.Test.YtdjamdbamkhblacDoorRd
import Derived.Test.YtdjamdbamkhblacDoorBlk
import Derived.Test.YtdjamdbamkhblacDoorCells
import Derived.Test.YtdjamdbamkhblacDoorInv
namespace Go.Proofs.YtdjamdbamkhblacDoor
open Go.RowKit
set_option linter.unusedVariables false
set_option linter.unusedSimpArgs false

structure PS (w0 wx : World) (l : List Ins) (n k : Nat) (V : Value) (g6 : Nat) (cr : Array Value) : Prop where
  own : wx.ownsRow w0.heap.size 65 4 V k (insCells (plainTo l n k))
  below : Below w0.heap.size w0 wx
  raw : Blk wx g6 23 cr
structure PI (w0 wx : World) (V : Value) (g : Nat) (ci : Array Value) : Prop where
  ins : Blk wx g 65 ci
  ne : some g ≠ V.ownBlock
  lo : w0.heap.size ≤ g

def pt (g i : Nat) : Value := .pointer (some ⟨g, i, none⟩)
theorem PS.set {w0 wx : World} {l : List Ins} {n k : Nat} {V : Value} {g6 : Nat} {cr ci : Array Value} {g : Nat} (h : PS w0 wx l n k V g6 cr) (hp : PI w0 wx V g ci) (i : Nat) (u : Value) : PS w0 (wx.setCell ⟨g, i, none⟩ u) l n k V g6 cr :=
  ⟨h.own.kept (set_grown wx ⟨g, i, none⟩ u) (.inr fun e => hp.ne e.symm), h.below.setCell (p := ⟨g, i, none⟩) hp.lo u, h.raw.far (p := ⟨g, i, none⟩) (h.raw.ne_ hp.ins (by decide)) u⟩
theorem PI.set {w0 wx : World} {V : Value} {g : Nat} {ci : Array Value} (h : PI w0 wx V g ci) (i : Nat) (u : Value) : PI w0 (wx.setCell ⟨g, i, none⟩ u) V g (ci.setIfInBounds i u) := ⟨h.ins.set_ i u, h.ne, h.lo⟩
theorem PS.new {w0 wx : World} {l : List Ins} {n k : Nat} {V : Value} {g6 : Nat} {cr : Array Value} (h : PS w0 wx l n k V g6 cr) (o : Obj) : PS w0 (wx.alloc o) l n k V g6 cr := ⟨h.own.alloc o, h.below.alloc h.below.size o, h.raw.alloc o⟩
theorem PI.new {w0 wx : World} {l : List Ins} {n k : Nat} {V : Value} {g6 : Nat} {cr : Array Value} (h : PS w0 wx l n k V g6 cr) (ci : Array Value) : PI w0 (wx.alloc (.cells ci 65)) V wx.heap.size ci := ⟨Blk.new wx _ _, fun e => by have := (h.own.lt wx.heap.size e.symm).2; omega, h.below.size⟩
theorem info_InstrP : (Tryd.prog.info? 65).map (fun i => (i.zero, i.size, i.bytes)) = some (some (.agg #[.int .i64 0, .int .i64 0, .int .i64 0, .int .i64 0]), 4, 32) := by kernel_rfl
theorem insCells_appP (a b : List Ins) : insCells (a ++ b) = insCells a ++ insCells b := by simp [insCells]
structure PX (w0 wx : World) (l : List Ins) (n k : Nat) (V : Value) (g6 : Nat) (cr : Array Value) (g : Nat) (ci : Array Value) : Prop where
  ps : PS w0 wx l n k V g6 cr
  pi : PI w0 wx V g ci
theorem PX.set {w0 wx : World} {l : List Ins} {n k : Nat} {V : Value} {g6 : Nat} {cr ci : Array Value} {g : Nat} (h : PX w0 wx l n k V g6 cr g ci) (i : Nat) (u : Value) : PX w0 (wx.setCell ⟨g, i, none⟩ u) l n k V g6 cr g (ci.setIfInBounds i u) := ⟨h.ps.set h.pi i u, h.pi.set i u⟩
theorem PX.drew {w0 wx : World} {l : List Ins} {n k : Nat} {V : Value} {g6 : Nat} {cr ci : Array Value} {g : Nat} (h : PX w0 wx l n k V g6 cr g ci) : PX w0 wx.drew l n k V g6 cr g ci := ⟨⟨h.ps.own, h.ps.below.drew, Blk.drew h.ps.raw⟩, ⟨Blk.drew h.pi.ins, h.pi.ne, h.pi.lo⟩⟩
theorem PX.alloc {w0 wx : World} {l : List Ins} {n k : Nat} {V : Value} {g6 : Nat} {cr ci : Array Value} {g : Nat} (h : PX w0 wx l n k V g6 cr g ci) (o : Obj) : PX w0 (wx.alloc o) l n k V g6 cr g ci := ⟨h.ps.new o, ⟨h.pi.ins.alloc o, h.pi.ne, h.pi.lo⟩⟩
/-- The same, whatever the instruction's cells hold. -/
def PXE (w0 wx : World) (l : List Ins) (n k : Nat) (V : Value) (g6 : Nat) (cr : Array Value) (g : Nat) : Prop := ∃ ci, PX w0 wx l n k V g6 cr g ci
theorem PXE.set {w0 wx : World} {l : List Ins} {n k : Nat} {V : Value} {g6 : Nat} {cr : Array Value} {g : Nat} (h : PXE w0 wx l n k V g6 cr g) (i : Nat) (u : Value) : PXE w0 (wx.setCell ⟨g, i, none⟩ u) l n k V g6 cr g := h.elim fun _ h => ⟨_, h.set i u⟩
theorem PXE.drew {w0 wx : World} {l : List Ins} {n k : Nat} {V : Value} {g6 : Nat} {cr : Array Value} {g : Nat} (h : PXE w0 wx l n k V g6 cr g) : PXE w0 wx.drew l n k V g6 cr g := h.elim fun _ h => ⟨_, h.drew⟩
theorem PXE.alloc {w0 wx : World} {l : List Ins} {n k : Nat} {V : Value} {g6 : Nat} {cr : Array Value} {g : Nat} (h : PXE w0 wx l n k V g6 cr g) (o : Obj) : PXE w0 (wx.alloc o) l n k V g6 cr g := h.elim fun _ h => ⟨_, h.alloc o⟩
theorem PXE.own {w0 wx : World} {l : List Ins} {n k : Nat} {V : Value} {g6 : Nat} {cr : Array Value} {g : Nat} (h : PXE w0 wx l n k V g6 cr g) : wx.ownsRow w0.heap.size 65 4 V k (insCells (plainTo l n k)) := h.elim fun _ h => h.ps.own
end Go.Proofs.YtdjamdbamkhblacDoor
