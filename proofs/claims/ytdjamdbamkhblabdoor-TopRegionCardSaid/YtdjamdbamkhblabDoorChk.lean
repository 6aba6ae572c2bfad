/- What a check of code that finds nothing says: plain mathematics. -/
import Derived.Test.YtdjamdbamkhblabDoorCpuPure
import Derived.Test.YtdjamdbamkhblabDoorCode
namespace Go.Proofs.YtdjamdbamkhblabDoor
theorem gA_le (op : Int) : gA op ≤ 7 := by unfold gA; split <;> omega
theorem gB_le (op : Int) : gB op ≤ 7 := by unfold gB; split <;> omega
theorem gC_le (op : Int) : gC op ≤ 65535 := by unfold gC; repeat' split
                                               all_goals omega
theorem okI_iff (i : Ins) : okI i = true ↔ (0 ≤ i.a ∧ i.a ≤ gA i.op) ∧ (0 ≤ i.b ∧ i.b ≤ gB i.op) ∧ (0 ≤ i.c ∧ i.c ≤ gC i.op) := by
  simp [okI, and_assoc]
theorem insOk_of {i : Ins} (h1 : 1 ≤ i.op) (h2 : i.op ≤ 15) (h : okI i = true) : InsOk i := by
  obtain ⟨⟨a1, a2⟩, ⟨b1, b2⟩, c1, c2⟩ := (okI_iff i).1 h
  have := gA_le i.op
  have := gB_le i.op
  have := gC_le i.op
  refine ⟨h1, h2, a1, by omega, b1, by omega, c1, by omega, fun h3 h4 => ?_⟩
  unfold gC at c2
  rw [if_neg (by omega), if_pos ⟨h3, h4⟩] at c2
  exact c2
theorem chk_zero_iff (l : List Ins) : chk l = 0 ↔ ∀ i ∈ l, (1 ≤ i.op ∧ i.op ≤ 15) ∧ okI i = true := by
  induction l with
  | nil => simp [chk]
  | cons i r ih =>
    rw [chk]
    by_cases h1 : i.op < 1 ∨ 15 < i.op
    · rw [if_pos h1]
      refine ⟨fun h => by omega, fun h => ?_⟩
      have := (h i (List.mem_cons_self ..)).1
      omega
    · rw [if_neg h1]
      by_cases h2 : okI i = true
      · rw [if_pos h2, ih]
        exact ⟨fun h j hj => by
          rcases List.mem_cons.1 hj with rfl | hj
          · exact ⟨by omega, h2⟩
          · exact h j hj, fun h j hj => h j (List.mem_cons_of_mem _ hj)⟩
      · rw [if_neg h2]
        exact ⟨fun h => by omega, fun h => absurd (h i (List.mem_cons_self ..)).2 h2⟩
theorem check_zero_iff (l : List Ins) : check l = 0 ↔ l.length ≤ 200 ∧ chk l = 0 := by
  unfold check
  split
  · exact ⟨fun h => by omega, fun h => by omega⟩
  · exact ⟨fun h => ⟨by omega, h⟩, fun h => h.2⟩
theorem codeOk_of_check {l : List Ins} (h : check l = 0) : CodeOk l := fun i hi => by
  have := (chk_zero_iff l).1 ((check_zero_iff l).1 h).2 i hi
  exact insOk_of this.1.1 this.1.2 this.2
end Go.Proofs.YtdjamdbamkhblabDoor
