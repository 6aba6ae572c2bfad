/- The kernel as plain mathematics: what a check answers, what each act does: no program in sight. -/
import Derived.Test.YtdjamdbamkhblabDoorCodecP
import Derived.Test.YtdjamdbamkhblabDoorMod
import Derived.Test.YtdjamdbamkhblabDoorKernData
import Derived.Test.YtdjamdbamkhblabDoorIdx
import Derived.Test.YtdjamdbamkhblabDoorCpuPure
namespace Go.Proofs.YtdjamdbamkhblabDoor
open Go.RowKit
/-- An answer. -/
structure Ans where
  code : Int
  n : Int
  data : ByteArray
def empS (s : ByteArray) : Bool := s.size == 0
def noS : ByteArray := ⟨#[]⟩
def ansE (e : Int) : Ans := ⟨e, 0, noS⟩
def ansN (n : Nat) : Ans := ⟨0, n, noS⟩
/-- Has any process such an end? -/
def hasP (kind pl : Int) (p : Prc) : Bool := p.ends.any fun x => (x.kind == kind) && (x.node == pl)
def hasE (ps : List Prc) (kind pl : Int) : Bool := ps.any (hasP kind pl)
def nodOk (n : Nat) (x : Nod) : Bool :=
  if x.kind = 0 then empS x.name && empS x.data && (x.unit == 0)
  else if x.kind = 1 then (x.unit == 0) && decide (x.data.size ≤ 100)
  else if x.kind = 2 then empS x.data && decide (0 ≤ x.unit) && decide (x.unit < n) else false
def dupN (l : List Nod) (s : ByteArray) : Bool := l.any fun x => x.name == s
def nodBad (k : Krn) (i : Nat) (x : Nod) : Bool :=
  !nodOk k.mods.length x || (!empS x.name && (!nameOk x.name || (x.kind == 0) || dupN (k.nodes.take i) x.name)) || ((x.kind != 0) && empS x.name && !hasE k.procs 1 i)
def endOk (k : Krn) (x : Opn) : Bool :=
  if x.kind = 0 then (x.node == 0) && (x.pos == 0)
  else if x.kind = 1 then decide (0 ≤ x.node ∧ x.node < 8) && ((k.nodes.getD x.node.toNat default).kind != 0) && decide (0 ≤ x.pos ∧ x.pos ≤ 100)
  else if x.kind = 2 ∨ x.kind = 3 then decide (0 ≤ x.node ∧ x.node < 6) && (x.pos == 0) else false
def prcBad (k : Krn) (p : Prc) : Bool := (p.ends.length != 6) || p.ends.any fun x => !endOk k x || (!p.live && (x.kind != 0))
def pipBad (k : Krn) (i : Nat) (s : ByteArray) : Bool := decide (20 < s.size) || (!empS s && !hasE k.procs 2 i)
/-- Does anything hold at a place of a list? (the places counted on from k) -/
def anyI {α : Type} (p : Nat → α → Bool) : List α → Nat → Bool
  | [], _ => false
  | x :: r, k => p k x || anyI p r (k + 1)
def modsE : List Mod → List Mod → Int
  | _, [] => 0
  | pre, m :: r => if modCheck m = 0 then (if pre.any (fun x => x.name == m.name) then 7 else modsE (pre ++ [m]) r) else modCheck m
/-- What kern.Check answers. -/
def kcheck (k : Krn) : Int :=
  if 8 < k.mods.length ∨ k.mem.length ≠ 1024 ∨ k.nodes.length ≠ 8 ∨ k.pipes.length ≠ 6 ∨ k.procs.length ≠ 4 then 1
  else if modsE [] k.mods = 0 then (if k.mem.any oddW then 2 else if anyI (nodBad k) k.nodes 0 || k.procs.any (prcBad k) || anyI (pipBad k) k.pipes 0 then 9 else 0)
  else modsE [] k.mods

def findK (k : Krn) (s : ByteArray) : Int := idxF (fun x : Nod => (x.kind != 0) && (x.name == s)) k.nodes 0
def freeN (k : Krn) : Int := idxF (fun x : Nod => x.kind == 0) k.nodes 0
def freeE (l : List Opn) : Int := idxF (fun x : Opn => x.kind == 0) l 0
def freeP (k : Krn) : Int := idxF (fun p : Prc => !p.live) k.procs 0
def mapI {α : Type} (f : Nat → α → α) : List α → Nat → List α
  | [], _ => []
  | x :: r, k => f k x :: mapI f r (k + 1)
/-- What nobody has open, and nobody can open, is gone. -/
def tidyN (ps : List Prc) (i : Nat) (x : Nod) : Nod := if empS x.name && !hasE ps 1 i then default else x
def tidyS (ps : List Prc) (i : Nat) (s : ByteArray) : ByteArray := if hasE ps 2 i then s else noS
def tidyK (k : Krn) : Krn := { k with nodes := mapI (tidyN k.procs) k.nodes 0, pipes := mapI (tidyS k.procs) k.pipes 0 }
def setEnd (k : Krn) (p i : Nat) (x : Opn) : Krn :=
  { k with procs := k.procs.set p { (k.procs.getD p default) with ends := (k.procs.getD p default).ends.set i x } }
def setNod (k : Krn) (i : Nat) (x : Nod) : Krn := { k with nodes := k.nodes.set i x }

def installK (k : Krn) (s : ByteArray) : Krn × Ans :=
  match decE s.data.toList modCheck with
  | (none, e) => (k, ansE e)
  | (some m, _) =>
    if k.mods.any (fun x => x.name == m.name) then (k, ansE 7)
    else if k.mods.length = 8 then (k, ansE 8)
    else ({ k with mods := k.mods ++ [m], mem := k.mem.take (64 * k.mods.length) ++ (m.data ++ List.replicate (64 - m.data.length) 0) ++ k.mem.drop (64 * k.mods.length + 64) }, ansN k.mods.length)
def makeK (k : Krn) (s : ByteArray) (x : Nod) : Krn × Ans :=
  if nameOk s then
    if 0 ≤ findK k s then (k, ansE 7)
    else if x.kind = 2 ∧ (x.unit < 0 ∨ k.mods.length ≤ x.unit) then (k, ansE 6)
    else if freeN k < 0 then (k, ansE 8)
    else (setNod k (freeN k).toNat { x with name := s }, ansN (freeN k).toNat)
  else (k, ansE 4)
def unlinkK (k : Krn) (s : ByteArray) : Krn × Ans :=
  if empS s ∨ findK k s < 0 then (k, ansE 6)
  else (tidyK (setNod k (findK k s).toNat { (k.nodes.getD (findK k s).toNat default) with name := noS }), ansN 0)
/-- What a module answers to a word, and the words behind it; none: it fails. -/
def askK (k : Krn) (u : Nat) (n : Nat) : Option (Nat × Krn) :=
  match runs (k.mods.getD u default).code 2000 ⟨0, [], [n, 0, 0, 0, 64 * u, 64 * u, 63, 0], [], k.mem.map Int.toNat⟩ with
  | (s, en) => if en = 1 then some (s.regs.getD 0 0, { k with mem := s.mem.map fun (x : Nat) => (x : Int) }) else none
def askAll : Krn → Nat → List UInt8 → Nat × Krn
  | k, _, [] => (0, k)
  | k, u, c :: r => match askK k u c.toNat with
    | none => (0, k)
    | some (_, k') => ((askAll k' u r).1 + 1, (askAll k' u r).2)
def openK (k : Krn) (p : Nat) (s : ByteArray) : Krn × Ans :=
  if nameOk s then
    if findK k s < 0 then (k, ansE 6)
    else if freeE (k.procs.getD p default).ends < 0 then (k, ansE 8)
    else (setEnd k p (freeE (k.procs.getD p default).ends).toNat ⟨1, findK k s, 0⟩, ansN (freeE (k.procs.getD p default).ends).toNat)
  else (k, ansE 4)
/-- The first pipe that nobody has open; -1: none. -/
def freePipe (k : Krn) : Int := idxF (fun i : Nat => !hasE k.procs 2 i && !hasE k.procs 3 i) [0, 1, 2, 3, 4, 5] 0
def pipeK (k : Krn) (p : Nat) : Krn × Ans :=
  let a := freeE (k.procs.getD p default).ends
  let n := freePipe k
  if a < 0 ∨ n < 0 then (k, ansE 8)
  else
    let k1 := setEnd k p a.toNat ⟨2, n, 0⟩
    let b := freeE (k1.procs.getD p default).ends
    if b < 0 then (k, ansE 8) else (setEnd k1 p b.toNat ⟨3, n, 0⟩, ansN a.toNat)
def forkK (k : Krn) (p : Nat) : Krn × Ans :=
  if freeP k < 0 then (k, ansE 8) else ({ k with procs := k.procs.set (freeP k).toNat ⟨true, (k.procs.getD p default).ends⟩ }, ansN (freeP k).toNat)
def exitK (k : Krn) (p : Nat) : Krn × Ans := (tidyK { k with procs := k.procs.set p ⟨false, List.replicate 6 default⟩ }, ansN 0)
def cutS (s : ByteArray) (a b : Nat) : ByteArray := ⟨((s.data.toList.take b).drop a).toArray⟩
def readK (k : Krn) (p i : Nat) (many : Int) : Krn × Ans :=
  let x := (k.procs.getD p default).ends.getD i default
  if many < 1 ∨ 100 < many then (k, ansE 2)
  else if x.kind = 2 then
    let s := k.pipes.getD x.node.toNat noS
    if empS s then (k, ansE (if hasE k.procs 3 x.node then 13 else 12))
    else
      let m := min many.toNat s.size
      ({ k with pipes := k.pipes.set x.node.toNat (cutS s m s.size) }, ⟨0, m, cutS s 0 m⟩)
  else
    let d := k.nodes.getD x.node.toNat default
    if d.kind = 2 then
      match askK k d.unit.toNat 256 with
      | none => (k, ansE 14)
      | some (v, k') => (k', ⟨0, 1, ⟨#[UInt8.ofNat v]⟩⟩)
    else if d.data.size ≤ x.pos.toNat then (k, ansE 12)
    else
      let m := min many.toNat (d.data.size - x.pos.toNat)
      (setEnd k p i { x with pos := x.pos + m }, ⟨0, m, cutS d.data x.pos.toNat (x.pos.toNat + m)⟩)
/-- A file's bytes, with others written over them at a place. -/
def overS (d s : List UInt8) (pos : Nat) : List UInt8 := (d ++ List.replicate (pos - d.length) 0).take pos ++ s ++ d.drop (pos + s.length)
def writeK (k : Krn) (p i : Nat) (s : ByteArray) : Krn × Ans :=
  let x := (k.procs.getD p default).ends.getD i default
  if empS s ∨ 100 < s.size then (k, ansE 2)
  else if x.kind = 3 then
    let t := k.pipes.getD x.node.toNat noS
    if hasE k.procs 2 x.node = false then (k, ansE 12)
    else if t.size = 20 then (k, ansE 13)
    else
      let m := min (20 - t.size) s.size
      ({ k with pipes := k.pipes.set x.node.toNat ⟨(t.data.toList ++ s.data.toList.take m).toArray⟩ }, ansN m)
  else
    let d := k.nodes.getD x.node.toNat default
    if d.kind = 2 then
      let r := askAll k d.unit.toNat s.data.toList
      if r.1 = 0 then (r.2, ansE 14) else (r.2, ansN r.1)
    else
      let m := min s.size (100 - x.pos.toNat)
      if m = 0 then (k, ansE 8)
      else (setEnd (setNod k x.node.toNat { d with data := ⟨(overS d.data.data.toList (s.data.toList.take m) x.pos.toNat).toArray⟩ }) p i { x with pos := x.pos + m }, ansN m)
def byK (k : Krn) (p : Nat) (a : Akt) : Krn × Ans :=
  if a.kind = 5 then openK k p a.name
  else if a.kind = 9 then pipeK k p
  else if a.kind = 10 then forkK k p
  else if a.kind = 11 then exitK k p
  else
    let x := (k.procs.getD p default).ends.getD a.n.toNat default
    if a.n < 0 ∨ 6 ≤ a.n ∨ x.kind = 0 then (k, ansE 6)
    else if a.kind = 6 then (tidyK (setEnd k p a.n.toNat default), ansN 0)
    else if (a.kind = 7 ∧ x.kind = 3) ∨ (a.kind = 8 ∧ x.kind = 2) then (k, ansE 3)
    else if a.kind = 7 then readK k p a.n.toNat a.m
    else writeK k p a.n.toNat a.data
/-- An act on a kernel that is in order. -/
def doK (k : Krn) (a : Akt) : Krn × Ans :=
  if a.kind = 1 then installK k a.data
  else if a.kind = 2 then makeK k a.name ⟨noS, 1, noS, 0⟩
  else if a.kind = 3 then makeK k a.name ⟨noS, 2, noS, a.n⟩
  else if a.kind = 4 then unlinkK k a.name
  else if 0 ≤ a.p ∧ a.p < 4 ∧ (k.procs.getD a.p.toNat default).live = true then byK k a.p.toNat a
  else (k, ansE 6)
/-- What kern.Do is refused for; 0: it is not. -/
def doE (k : Krn) (a : Akt) : Int := if kcheck k = 0 then (if a.kind < 1 ∨ 11 < a.kind then 3 else 0) else kcheck k
def newK : Krn := ⟨[], List.replicate 1024 0, List.replicate 8 default, List.replicate 6 noS, ⟨true, List.replicate 6 default⟩ :: List.replicate 3 ⟨false, List.replicate 6 default⟩⟩
/-- A script: the kernel behind it, and its answers. -/
def runK : Krn → List Akt → Krn × List Ans
  | k, [] => (k, [])
  | k, a :: r => if doE k a = 0 then ((runK (doK k a).1 r).1, (doK k a).2 :: (runK (doK k a).1 r).2) else ((runK k r).1, ansE (doE k a) :: (runK k r).2)
theorem newK_check : kcheck newK = 0 := by decide +kernel
end Go.Proofs.YtdjamdbamkhblabDoor
