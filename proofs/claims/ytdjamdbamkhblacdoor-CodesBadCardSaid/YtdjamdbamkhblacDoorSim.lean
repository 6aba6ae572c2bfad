/- What is made of plain code does what the plain code does, as far as it stays in its region: plain mathematics. -/
import Derived.Test.YtdjamdbamkhblacDoorTrust
namespace Go.Proofs.YtdjamdbamkhblacDoor
def ldB (i : Ins) : Bool := i.op == 8 || i.op == 9
def atMap (l : List Ins) (k : Nat) : Nat := k + 2 * (l.take k).countP ldB
/-- The plain machine and the made one side by side. -/
structure Sim (l : List Ins) (s t : Mc) : Prop where
  pos : s.pos < l.length
  tpos : t.pos = atMap l s.pos
  back : ∀ p ∈ s.back, p < l.length
  tback : t.back = s.back.map (atMap l)
  s8 : s.regs.length = 8
  t8 : t.regs.length = 8
  regs : ∀ k, k < 8 → k ≠ 4 → k ≠ 5 → k ≠ 6 → s.regs.getD k 0 = t.regs.getD k 0
  r5 : t.regs.getD 5 0 = 0
  r6 : t.regs.getD 6 0 = 63
  told : s.told = t.told
  mem : s.mem = t.mem
  small : s.mem.length ≤ 64
structure Out (s t : Mc) : Prop where
  s8 : s.regs.length = 8
  t8 : t.regs.length = 8
  regs : ∀ k, k < 4 → s.regs.getD k 0 = t.regs.getD k 0
  told : s.told = t.told
  mem : s.mem = t.mem
theorem Sim.rg {l : List Ins} {s t : Mc} (h : Sim l s t) {z : Int} (h0 : 0 ≤ z) (h7 : z ≤ 7) (ho : ¬ (4 ≤ z ∧ z ≤ 6)) : rg t z = rg s z := by
  unfold YtdjamdbamkhblacDoor.rg
  exact (h.regs z.toNat (by omega) (by omega) (by omega) (by omega)).symm
theorem Sim.out {l : List Ins} {s t : Mc} (h : Sim l s t) : Out s t := ⟨h.s8, h.t8, fun k hk => h.regs k (by omega) (by omega) (by omega) (by omega), h.told, h.mem⟩
end Go.Proofs.YtdjamdbamkhblacDoor
