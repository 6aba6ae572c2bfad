/- Small words for memory and plain data that the walks of this seat use: no condition. -/
import Derived.Test.YtdjamdbamkhblacDoorRows
import Derived.WalkKit
import Derived.WalkSpells
import Derived.WalkLawsBesides
import Derived.Lib.Hide
import Derived.Deep.LoopGhost
import Derived.LoopN
import Derived.Handy
import Derived.PlainAid
import Derived.Deep.RegionHeld3
import Derived.BigQuiet
import Derived.Deep.QuietTactic
import Derived.Deep.DeepCutAuto
import Derived.Deep.Slices
import Derived.Deep.Fields
import Derived.Deep.Draws
import Derived.Deep.AppendLies
import Derived.Maps.AppendAt
import Derived.Laws.OwnMore
import Derived.Laws.BitsAllLaws
import Derived.Laws.BitsLemmas
import Derived.ChangeSame
import Derived.ProofKit
import Derived.OpenShut
import Derived.Lib.SmallJoins
namespace Go.Proofs.YtdjamdbamkhblacDoor
open Go.RowKit

theorem Below.drewN' {B : Nat} {a w : World} (h : Below B a w) (n : Nat) : Below B a (w.drewN n) := ⟨h.os, h.tape, h.output, h.size, h.block⟩
/-- A loop's counter, and what holds at it. -/
def Cnt (n : Nat) (i : Value) (p : Nat → Prop) : Prop := ∃ k : Nat, k ≤ n ∧ i = .int .i64 k ∧ p k

/-- An instruction as it lies in four cells. -/
structure Ins where
  op : Int
  a : Int
  b : Int
  c : Int

theorem Ins.ext' {i j : Ins} (h0 : i.op = j.op) (h1 : i.a = j.a) (h2 : i.b = j.b) (h3 : i.c = j.c) : i = j := by
  cases i; cases j; simp_all
instance : DecidableEq Ins := fun i j =>
  if h : i.op = j.op ∧ i.a = j.a ∧ i.b = j.b ∧ i.c = j.c then .isTrue (Ins.ext' h.1 h.2.1 h.2.2.1 h.2.2.2)
  else .isFalse (fun e => h (by subst e; exact ⟨rfl, rfl, rfl, rfl⟩))
instance : Inhabited Ins := ⟨⟨0, 0, 0, 0⟩⟩
def Ins.val (i : Ins) : Value := .agg #[.int .i64 i.op, .int .i64 i.a, .int .i64 i.b, .int .i64 i.c]

/-- A slice of instructions that reads as a list. -/
def RdI (w : World) (B : Nat) (A : Option Addr) (l : List Ins) : Prop :=
  0 < l.length → ∃ b o, A = some ⟨b, o, none⟩ ∧ b < B ∧ ∀ k (h : k < l.length),
    w.cell? ⟨b, o + k * 4, none⟩ = some (.int .i64 l[k].op) ∧ w.cell? ⟨b, o + k * 4 + 1, none⟩ = some (.int .i64 l[k].a) ∧
    w.cell? ⟨b, o + k * 4 + 2, none⟩ = some (.int .i64 l[k].b) ∧ w.cell? ⟨b, o + k * 4 + 3, none⟩ = some (.int .i64 l[k].c)
/-- A slice of integers that reads as a list. -/
def RdN (w : World) (B : Nat) (A : Option Addr) (l : List Int) : Prop :=
  0 < l.length → ∃ b o, A = some ⟨b, o, none⟩ ∧ b < B ∧ ∀ k (h : k < l.length), w.cell? ⟨b, o + k, none⟩ = some (.int .i64 l[k])

theorem RdI.keep {w w' : World} {B : Nat} {A : Option Addr} {l : List Ins} (h : RdI w B A l) (hk : ∀ p : Addr, p.block < B → w'.cell? p = w.cell? p) : RdI w' B A l := fun hl => by
  obtain ⟨b, o, e, hb, hc⟩ := h hl
  refine ⟨b, o, e, hb, fun k hk' => ?_⟩
  obtain ⟨h0, h1, h2, h3⟩ := hc k hk'
  exact ⟨(hk _ hb).trans h0, (hk _ hb).trans h1, (hk _ hb).trans h2, (hk _ hb).trans h3⟩
theorem RdI.below {w w' : World} {B : Nat} {A : Option Addr} {l : List Ins} (h : RdI w B A l) (hb : Below B w w') : RdI w' B A l := h.keep fun _ hp => hb.cell hp
theorem RdN.keep {w w' : World} {B : Nat} {A : Option Addr} {l : List Int} (h : RdN w B A l) (hk : ∀ p : Addr, p.block < B → w'.cell? p = w.cell? p) : RdN w' B A l := fun hl => by
  obtain ⟨b, o, e, hb, hc⟩ := h hl
  exact ⟨b, o, e, hb, fun k hk' => (hk _ hb).trans (hc k hk')⟩
theorem RdN.below {w w' : World} {B : Nat} {A : Option Addr} {l : List Int} (h : RdN w B A l) (hb : Below B w w') : RdN w' B A l := h.keep fun _ hp => hb.cell hp
end Go.Proofs.YtdjamdbamkhblacDoor
