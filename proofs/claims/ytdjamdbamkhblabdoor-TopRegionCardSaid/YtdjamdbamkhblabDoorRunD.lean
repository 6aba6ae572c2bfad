/- What a run of the machine returns, in memory: the words that cpu.Run's and the reference's walks speak. No condition. -/
import Derived.Test.YtdjamdbamkhblabDoorMach
import Derived.Test.YtdjamdbamkhblabDoorChk
namespace Go.Proofs.YtdjamdbamkhblabDoor
open Go.RowKit
def runErr (l : List Ins) (regs mem : List Int) (fuel : Int) : Int :=
  if check l = 0 then (if 1024 < mem.length then 1 else if fuel < 0 ∨ 20000 < fuel ∨ (regs ++ mem).any oddW = true then 2 else 0) else check l
def toMc (regs mem : List Int) : Mc := ⟨0, [], regs.map Int.toNat, [], mem.map Int.toNat⟩
def runRes (l : List Ins) (regs mem : List Int) (fuel : Int) : Mc × Nat :=
  if runErr l regs mem fuel = 0 then runs l fuel.toNat (toMc regs mem) else (⟨0, [], [0, 0, 0, 0, 0, 0, 0, 0], [], []⟩, 0)
def outV (en : Nat) (r : List Nat) (T M : Value) : Value :=
  .agg #[natV en, natV (r.getD 0 0), natV (r.getD 1 0), natV (r.getD 2 0), natV (r.getD 3 0), natV (r.getD 4 0), natV (r.getD 5 0), natV (r.getD 6 0), natV (r.getD 7 0), T, M]
/-- Cells that are stored one behind the other. -/
def layL (b : Nat) : World → Nat → List Value → World
  | w, _, [] => w
  | w, k, u :: r => layL b (w.setCell ⟨b, k, none⟩ u) (k + 1) r
theorem layL_below {B b : Nat} {a : World} (hb : B ≤ b) : ∀ (us : List Value) (k : Nat) (w : World), Below B a w → Below B a (layL b w k us)
  | [], _, _, h => h
  | u :: r, k, _, h => layL_below hb r (k + 1) _ (h.setCell (p := ⟨b, k, none⟩) hb u)
theorem layL_grown (b : Nat) : ∀ (us : List Value) (k : Nat) (w : World), w.grownBy (layL b w k us) (some b)
  | [], _, w => World.grownBy.refl w _
  | u :: r, k, _ => (set_grown' k u).trans (layL_grown b r (k + 1) _)
def RunPost (w : World) (r : Mc × Nat) (err : Int) (e : Ending) (w' : World) : Prop :=
  ∃ T M, e = .returned (.tuple #[outV r.2 r.1.regs T M, .int .i64 err]) ∧ w'.ownsRow w.heap.size 3 1 T r.1.told.length (natsV r.1.told) ∧ w'.ownsRow w.heap.size 3 1 M r.1.mem.length (natsV r.1.mem) ∧ Below w.heap.size w w'
theorem RunPost.no {w w' : World} {l : List Ins} {regs mem : List Int} {fuel n : Int} {e : Ending} (hn : runErr l regs mem fuel = n) (h0 : n ≠ 0)
    (he : e = .returned (.tuple #[.agg #[.int .i64 0, .int .i64 0, .int .i64 0, .int .i64 0, .int .i64 0, .int .i64 0, .int .i64 0, .int .i64 0, .int .i64 0, .slice none 0 0, .slice none 0 0], .int .i64 n])) (hb : Below w.heap.size w w') :
    RunPost w (runRes l regs mem fuel) (runErr l regs mem fuel) e w' := by
  unfold runRes
  rw [hn, if_neg h0]
  exact ⟨_, _, he, World.ownsRow_nil _ _ _ _, World.ownsRow_nil _ _ _ _, hb⟩

end Go.Proofs.YtdjamdbamkhblabDoor
