/- What three small codes do: plain mathematics. -/
import Derived.Test.YtdjamdbamkhblabDoorCpuPure
namespace Go.Proofs.YtdjamdbamkhblabDoor
def m0 (regs : List Nat) : Mc := ⟨0, [], regs, [], []⟩
/-- A loop that counts down from k. -/
def cntCode (k : Nat) : List Ins := [⟨1, 1, 0, k⟩, ⟨1, 2, 0, 1⟩, ⟨3, 1, 1, 2⟩, ⟨11, 1, 0, 5⟩, ⟨10, 0, 0, 2⟩, ⟨15, 0, 0, 0⟩]
def cntAt (p j : Nat) : Mc := ⟨p, [], [0, j, 1, 0, 0, 0, 0, 0], [], []⟩
theorem cnt_sub' (k x y : Nat) : step (cntCode k) ⟨2, [], [0, x, y, 0, 0, 0, 0, 0], [], []⟩ = (⟨3, [], [0, (x + 65536 - y) % 65536, y, 0, 0, 0, 0, 0], [], []⟩, 0) := rfl
theorem cnt_sub (k j : Nat) (h1 : j < 65536) : step (cntCode k) (cntAt 2 (j + 1)) = (cntAt 3 j, 0) := by
  have e : (j + 1 + 65536 - 1) % 65536 = j := by omega
  unfold cntAt
  rw [cnt_sub', e]
theorem cnt_jz0 (k : Nat) : step (cntCode k) (cntAt 3 0) = (cntAt 5 0, 0) := rfl
theorem cnt_jz1 (k j : Nat) : step (cntCode k) (cntAt 3 (j + 1)) = (cntAt 4 (j + 1), 0) := rfl
theorem cnt_jmp (k j : Nat) : step (cntCode k) (cntAt 4 j) = (cntAt 2 j, 0) := rfl
theorem cnt_halt (k j : Nat) : step (cntCode k) (cntAt 5 j) = (cntAt 6 j, 1) := rfl
theorem cnt_loop (k : Nat) : ∀ j, j < 65536 → (runs (cntCode k) (3 * (j + 1)) (cntAt 2 (j + 1)) = (cntAt 6 0, 1)) ∧ ∀ f, f < 3 * (j + 1) → (runs (cntCode k) f (cntAt 2 (j + 1))).2 = 2
  | 0, h => by
    refine ⟨?_, fun f hf => ?_⟩
    · rw [runs_go (by rw [cnt_sub k 0 h]), cnt_sub k 0 h, runs_go (by rw [cnt_jz0]), cnt_jz0, runs_stop (by rw [cnt_halt]; decide), cnt_halt]
    · match f, hf with
      | 0, _ => rfl
      | 1, _ => rw [runs_go (by rw [cnt_sub k 0 h]), cnt_sub k 0 h]; rfl
      | 2, _ => rw [runs_go (by rw [cnt_sub k 0 h]), cnt_sub k 0 h, runs_go (by rw [cnt_jz0]), cnt_jz0]; rfl
  | j + 1, h => by
    obtain ⟨i1, i2⟩ := cnt_loop k j (by omega)
    have go3 : ∀ f, runs (cntCode k) (f + 3) (cntAt 2 (j + 1 + 1)) = runs (cntCode k) f (cntAt 2 (j + 1)) := fun f => by
      rw [runs_go (by rw [cnt_sub k (j + 1) h]), cnt_sub k (j + 1) h, runs_go (by rw [cnt_jz1]), cnt_jz1, runs_go (by rw [cnt_jmp]), cnt_jmp]
    refine ⟨?_, fun f hf => ?_⟩
    · rw [show 3 * (j + 1 + 1) = 3 * (j + 1) + 3 by omega, go3]; exact i1
    · match f, hf with
      | 0, _ => rfl
      | 1, _ => rw [runs_go (by rw [cnt_sub k (j + 1) h]), cnt_sub k (j + 1) h]; rfl
      | 2, _ => rw [runs_go (by rw [cnt_sub k (j + 1) h]), cnt_sub k (j + 1) h, runs_go (by rw [cnt_jz1]), cnt_jz1]; rfl
      | f + 3, hf => rw [go3]; exact i2 f (by omega)
def zero8 : List Nat := [0, 0, 0, 0, 0, 0, 0, 0]
theorem cnt_start (k f : Nat) : runs (cntCode k) (f + 2) (m0 zero8) = runs (cntCode k) f (cntAt 2 k) := by
  have s1 : step (cntCode k) (m0 zero8) = (⟨1, [], [0, k, 0, 0, 0, 0, 0, 0], [], []⟩, 0) := rfl
  have s2 : step (cntCode k) ⟨1, [], [0, k, 0, 0, 0, 0, 0, 0], [], []⟩ = (cntAt 2 k, 0) := rfl
  rw [runs_go (by rw [s1]), s1, runs_go (by rw [s2]), s2]
theorem cnt_done (k : Nat) (h1 : 1 ≤ k) (h2 : k ≤ 65535) : runs (cntCode k) (2 + 3 * k) (m0 zero8) = (cntAt 6 0, 1) := by
  rw [Nat.add_comm, cnt_start]
  obtain ⟨j, rfl⟩ : ∃ j, k = j + 1 := ⟨k - 1, by omega⟩
  exact (cnt_loop (j + 1) j (by omega)).1
theorem cnt_spent (k f : Nat) (h1 : 1 ≤ k) (h2 : k ≤ 65535) (hf : f < 2 + 3 * k) : (runs (cntCode k) f (m0 zero8)).2 = 2 := by
  obtain ⟨j, rfl⟩ : ∃ j, k = j + 1 := ⟨k - 1, by omega⟩
  match f, hf with
  | 0, _ => rfl
  | 1, _ => rfl
  | f + 2, hf => rw [cnt_start]; exact (cnt_loop (j + 1) j (by omega)).2 f (by omega)

/-- Arithmetic on two words. -/
def rckCode : List Ins := [⟨2, 2, 0, 1⟩, ⟨3, 3, 2, 1⟩, ⟨4, 4, 0, 1⟩, ⟨6, 5, 0, 1⟩, ⟨5, 6, 4, 5⟩, ⟨7, 7, 0, 1⟩, ⟨15, 0, 0, 0⟩]
theorem and_or_xor (x y : Nat) : (x &&& y) ||| (x ^^^ y) = x ||| y := by
  apply Nat.eq_of_testBit_eq
  intro i
  simp only [Nat.testBit_or, Nat.testBit_and, Nat.testBit_xor]
  cases x.testBit i <;> cases y.testBit i <;> rfl
theorem rck_done (x y : Nat) (hx : x < 65536) (hy : y < 65536) :
    runs rckCode 100 (m0 [x, y, 0, 0, 0, 0, 0, 0]) = (⟨7, [], [x, y, (x + y) % 65536, x, x &&& y, x ^^^ y, x ||| y, if x < y then 1 else 0], [], []⟩, 1) := by
  have e : ((x + y) % 65536 + 65536 - y) % 65536 = x := by omega
  show (_, 1) = _
  rw [← and_or_xor]
  show ((⟨7, [], [x, y, (x + y) % 65536, ((x + y) % 65536 + 65536 - y) % 65536, x &&& y, x ^^^ y, (x &&& y) ||| (x ^^^ y), if x < y then 1 else 0], [], []⟩ : Mc), 1) = _
  rw [e]

/-- Calls of itself, k deep. -/
def callCode (k : Nat) : List Ins := [⟨1, 1, 0, k⟩, ⟨1, 3, 0, 1⟩, ⟨12, 0, 0, 4⟩, ⟨15, 0, 0, 0⟩, ⟨3, 1, 1, 3⟩, ⟨11, 1, 0, 7⟩, ⟨12, 0, 0, 4⟩, ⟨2, 2, 2, 3⟩, ⟨13, 0, 0, 0⟩]
theorem call_all : ∀ k : Fin 33, 1 ≤ k.val → (runs (callCode k.val) 2000 (m0 zero8)).2 = (if 16 < k.val then 4 else 1) ∧ (16 < k.val ∨ ((runs (callCode k.val) 2000 (m0 zero8)).1.regs.getD 2 0 = k.val ∧ (runs (callCode k.val) 2000 (m0 zero8)).1.regs.getD 1 0 = 0)) := by
  decide +kernel
end Go.Proofs.YtdjamdbamkhblabDoor
