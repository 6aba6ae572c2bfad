/- The codes of three laws: what cpu.Run returns on them. No condition. -/
import Derived.Test.YtdjamdbamkhblabDoorRun
import Derived.Test.YtdjamdbamkhblabDoorRunsP
import Derived.Test.YtdjamdbamkhblabDoorPick
namespace Go.Proofs.YtdjamdbamkhblabDoor
theorem cnt_check : ∀ k : Fin 101, check (cntCode k.val) = 0 := by decide +kernel
theorem runErr_ok {l : List Ins} {regs mem : List Int} {f : Int} (h1 : check l = 0) (h2 : mem.length ≤ 1024) (h3 : 0 ≤ f) (h4 : f ≤ 20000) (h5 : (regs ++ mem).any oddW = false) : runErr l regs mem f = 0 := by
  unfold runErr
  rw [if_pos h1, if_neg (by omega), if_neg (by rw [h5]; intro h; rcases h with h | h | h; exact absurd h (by omega); exact absurd h (by omega); cases h)]
theorem runRes_ok {l : List Ins} {regs mem : List Int} {f : Nat} (h : runErr l regs mem (f : Int) = 0) : runRes l regs mem (f : Int) = runs l f (toMc regs mem) := by
  unfold runRes
  rw [if_pos h, Int.toNat_natCast]
theorem cnt_run (k : Nat) (h1 : 1 ≤ k) (h2 : k ≤ 100) : runErr (cntCode k) [0, 0, 0, 0, 0, 0, 0, 0] [] ((2 + 3 * k : Nat) : Int) = 0 ∧ runRes (cntCode k) [0, 0, 0, 0, 0, 0, 0, 0] [] ((2 + 3 * k : Nat) : Int) = (cntAt 6 0, 1) := by
  have he : runErr (cntCode k) [0, 0, 0, 0, 0, 0, 0, 0] [] ((2 + 3 * k : Nat) : Int) = 0 := runErr_ok (cnt_check ⟨k, by omega⟩) (by simp) (by omega) (by omega) (by decide)
  exact ⟨he, by rw [runRes_ok he]; exact cnt_done k h1 (by omega)⟩
theorem cnt_run2 (k f : Nat) (h1 : 1 ≤ k) (h2 : k ≤ 100) (hf : f < 2 + 3 * k) : runErr (cntCode k) [0, 0, 0, 0, 0, 0, 0, 0] [] (f : Int) = 0 ∧ (runRes (cntCode k) [0, 0, 0, 0, 0, 0, 0, 0] [] (f : Int)).2 = 2 := by
  have he : runErr (cntCode k) [0, 0, 0, 0, 0, 0, 0, 0] [] (f : Int) = 0 := runErr_ok (cnt_check ⟨k, by omega⟩) (by simp) (by omega) (by omega) (by decide)
  exact ⟨he, by rw [runRes_ok he]; exact cnt_spent k f h1 (by omega) hf⟩
end Go.Proofs.YtdjamdbamkhblabDoor
