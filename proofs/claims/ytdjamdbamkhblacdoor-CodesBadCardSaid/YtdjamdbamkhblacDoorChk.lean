/- What a check of code that finds nothing says: plain mathematics. -/
import Derived.Test.YtdjamdbamkhblacDoorCpuPure
import Derived.Test.YtdjamdbamkhblacDoorCode
namespace Go.Proofs.YtdjamdbamkhblacDoor
theorem chk_zero_iff (l : List Ins) : chk l = 0 ↔ ∀ i ∈ l, (1 ≤ i.op ∧ i.op ≤ 15) ∧ okI i = true := by
  induction l with
  | nil => simp [chk]
  | cons i r ih =>
    rw [chk]
    by_cases h1 : i.op < 1 ∨ 15 < i.op
    · rw [if_pos h1]
      refine ⟨fun h => by omega, fun h => ?_⟩
      have := (h i (List.mem_cons_self ..)).1
      omega
    · rw [if_neg h1]
      by_cases h2 : okI i = true
      · rw [if_pos h2, ih]
        exact ⟨fun h j hj => by
          rcases List.mem_cons.1 hj with rfl | hj
          · exact ⟨by omega, h2⟩
          · exact h j hj, fun h j hj => h j (List.mem_cons_of_mem _ hj)⟩
      · rw [if_neg h2]
        exact ⟨fun h => by omega, fun h => absurd (h i (List.mem_cons_self ..)).2 h2⟩
end Go.Proofs.YtdjamdbamkhblacDoor
