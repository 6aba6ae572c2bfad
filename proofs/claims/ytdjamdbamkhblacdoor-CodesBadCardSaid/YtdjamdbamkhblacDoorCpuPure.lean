/- The machine as plain mathematics: a step, and so many steps: no program in sight. -/
import Derived.Test.YtdjamdbamkhblacDoorBase
namespace Go.Proofs.YtdjamdbamkhblacDoor
/-- A machine: its words are natural numbers. -/
structure Mc where
  pos : Nat
  back : List Nat
  regs : List Nat
  told : List Nat
  mem : List Nat
def rg (s : Mc) (i : Int) : Nat := s.regs.getD i.toNat 0
def reck (x y op c : Nat) : Nat :=
  if op = 2 then (x + y) % 65536 else if op = 3 then (x + 65536 - y) % 65536 else if op = 4 then x &&& y else if op = 5 then x ||| y else if op = 6 then x ^^^ y
  else if op = 7 then (if x < y then 1 else 0) else c
/-- A step: the machine behind it, and the end (0: it goes on). -/
def step (l : List Ins) (s : Mc) : Mc × Nat :=
  match l[s.pos]? with
  | none => (s, 3)
  | some i =>
    if i.op = 8 then (if rg s i.b < s.mem.length then ({ s with pos := s.pos + 1, regs := s.regs.set i.a.toNat (s.mem.getD (rg s i.b) 0) }, 0) else ({ s with pos := s.pos + 1 }, 3))
    else if i.op = 9 then (if rg s i.b < s.mem.length then ({ s with pos := s.pos + 1, mem := s.mem.set (rg s i.b) (rg s i.a) }, 0) else ({ s with pos := s.pos + 1 }, 3))
    else if i.op = 10 then ({ s with pos := i.c.toNat }, 0)
    else if i.op = 11 then ({ s with pos := if rg s i.a = 0 then i.c.toNat else s.pos + 1 }, 0)
    else if i.op = 12 then (if s.back.length = 16 then ({ s with pos := s.pos + 1 }, 4) else ({ s with pos := i.c.toNat, back := s.back ++ [s.pos + 1] }, 0))
    else if i.op = 13 then (if s.back.length = 0 then ({ s with pos := s.pos + 1 }, 1) else ({ s with pos := s.back.getD (s.back.length - 1) 0, back := s.back.take (s.back.length - 1) }, 0))
    else if i.op = 14 then (if s.told.length = 100 then ({ s with pos := s.pos + 1 }, 5) else ({ s with pos := s.pos + 1, told := s.told ++ [rg s i.a] }, 0))
    else if i.op = 15 then ({ s with pos := s.pos + 1 }, 1)
    else ({ s with pos := s.pos + 1, regs := s.regs.set i.a.toNat (reck (rg s i.b) (rg s (i.c % 8)) i.op.toNat i.c.toNat) }, 0)
end Go.Proofs.YtdjamdbamkhblacDoor
