/- The codes of three laws: what cpu.Run returns on them. No condition. -/
import Derived.Test.YtdjamdbamkhblabDoorRun
import Derived.Test.YtdjamdbamkhblabDoorRunsP
import Derived.Test.YtdjamdbamkhblabDoorPick
namespace Go.Proofs.YtdjamdbamkhblabDoor
theorem cnt_check : ∀ k : Fin 101, check (cntCode k.val) = 0 := by decide +kernel
theorem runErr_ok {l : List Ins} {regs mem : List Int} {f : Int} (h1 : check l = 0) (h2 : mem.length ≤ 1024) (h3 : 0 ≤ f) (h4 : f ≤ 20000) (h5 : (regs ++ mem).any oddW = false) : runErr l regs mem f = 0 := by
  unfold runErr
  rw [if_pos h1, if_neg (by omega), if_neg (by rw [h5]; intro h; rcases h with h | h | h; exact absurd h (by omega); exact absurd h (by omega); cases h)]
theorem runRes_ok {l : List Ins} {regs mem : List Int} {f : Nat} (h : runErr l regs mem (f : Int) = 0) : runRes l regs mem (f : Int) = runs l f (toMc regs mem) := by
  unfold runRes
  rw [if_pos h, Int.toNat_natCast]
theorem cnt_run (k : Nat) (h1 : 1 ≤ k) (h2 : k ≤ 100) : runErr (cntCode k) [0, 0, 0, 0, 0, 0, 0, 0] [] ((2 + 3 * k : Nat) : Int) = 0 ∧ runRes (cntCode k) [0, 0, 0, 0, 0, 0, 0, 0] [] ((2 + 3 * k : Nat) : Int) = (cntAt 6 0, 1) := by
  have he : runErr (cntCode k) [0, 0, 0, 0, 0, 0, 0, 0] [] ((2 + 3 * k : Nat) : Int) = 0 := runErr_ok (cnt_check ⟨k, by omega⟩) (by simp) (by omega) (by omega) (by decide)
  exact ⟨he, by rw [runRes_ok he]; exact cnt_done k h1 (by omega)⟩
theorem cnt_run2 (k f : Nat) (h1 : 1 ≤ k) (h2 : k ≤ 100) (hf : f < 2 + 3 * k) : runErr (cntCode k) [0, 0, 0, 0, 0, 0, 0, 0] [] (f : Int) = 0 ∧ (runRes (cntCode k) [0, 0, 0, 0, 0, 0, 0, 0] [] (f : Int)).2 = 2 := by
  have he : runErr (cntCode k) [0, 0, 0, 0, 0, 0, 0, 0] [] (f : Int) = 0 := runErr_ok (cnt_check ⟨k, by omega⟩) (by simp) (by omega) (by omega) (by decide)
  exact ⟨he, by rw [runRes_ok he]; exact cnt_spent k f h1 (by omega) hf⟩
theorem rck_check : check rckCode = 0 := by decide +kernel
theorem rck_run (x y : Nat) (hx : x < 65536) (hy : y < 65536) : runErr rckCode [(x : Int), (y : Int), 0, 0, 0, 0, 0, 0] [] ((100 : Nat) : Int) = 0 ∧
    runRes rckCode [(x : Int), (y : Int), 0, 0, 0, 0, 0, 0] [] ((100 : Nat) : Int) = (⟨7, [], [x, y, (x + y) % 65536, x, x &&& y, x ^^^ y, x ||| y, if x < y then 1 else 0], [], []⟩, 1) := by
  have he : runErr rckCode [(x : Int), (y : Int), 0, 0, 0, 0, 0, 0] [] ((100 : Nat) : Int) = 0 := runErr_ok rck_check (by simp) (by omega) (by omega) (by simp [oddW]; omega)
  refine ⟨he, ?_⟩
  rw [runRes_ok he]
  have e : toMc [(x : Int), (y : Int), 0, 0, 0, 0, 0, 0] [] = m0 [x, y, 0, 0, 0, 0, 0, 0] := by simp [toMc, m0]
  rw [e]
  exact rck_done x y hx hy
theorem call_check : ∀ k : Fin 33, check (callCode k.val) = 0 := by decide +kernel
theorem call_run (k : Nat) (h1 : 1 ≤ k) (h2 : k ≤ 32) : runErr (callCode k) [0, 0, 0, 0, 0, 0, 0, 0] [] ((2000 : Nat) : Int) = 0 ∧
    (runRes (callCode k) [0, 0, 0, 0, 0, 0, 0, 0] [] ((2000 : Nat) : Int)).2 = (if 16 < k then 4 else 1) ∧ (16 < k ∨ ((runRes (callCode k) [0, 0, 0, 0, 0, 0, 0, 0] [] ((2000 : Nat) : Int)).1.regs.getD 2 0 = k ∧ (runRes (callCode k) [0, 0, 0, 0, 0, 0, 0, 0] [] ((2000 : Nat) : Int)).1.regs.getD 1 0 = 0)) := by
  have he : runErr (callCode k) [0, 0, 0, 0, 0, 0, 0, 0] [] ((2000 : Nat) : Int) = 0 := runErr_ok (call_check ⟨k, by omega⟩) (by simp) (by omega) (by omega) (by decide)
  refine ⟨he, ?_⟩
  have e : toMc [0, 0, 0, 0, 0, 0, 0, 0] [] = m0 zero8 := rfl
  have h := call_all ⟨k, by omega⟩ h1
  simp only at h
  rw [runRes_ok he, e]
  exact h
end Go.Proofs.YtdjamdbamkhblabDoor
