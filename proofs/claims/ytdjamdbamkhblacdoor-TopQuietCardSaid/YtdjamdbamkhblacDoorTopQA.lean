/- TopQuiet's scripts, as lists, and what runs of them leave: plain mathematics. By an AI agent (xtq2.py). -/
import Derived.Test.YtdjamdbamkhblacDoorQuietH
import Derived.Test.YtdjamdbamkhblacDoorG37
namespace Go.Proofs.YtdjamdbamkhblacDoor
open Go.RowKit
set_option linter.unusedVariables false
set_option linter.unusedSimpArgs false
def plainA (l : List Ins) : List Akt := (Jz0 l 60).filter fun a => !Lz4 a
def loudA (l : List Ins) : List Akt := (Lzy l (Jz0 l 60) 0).filter fun a => !(Lz4 a && decide (a ∈ Jz0 l 60))
theorem withL_snoc (l : List Ins) : ∀ (zs : List Akt) (a : Akt) (i : Nat), Lzy l (zs ++ [a]) i = Lzy l zs i ++ a :: Lzn l (i + zs.length)
  | [], a, i => by simp [Lzy]
  | z :: zs, a, i => by
    rw [List.cons_append, Lzy, Lzy, withL_snoc l zs a (i + 1), List.length_cons, show i + 1 + zs.length = i + (zs.length + 1) by omega]
    simp
theorem withL_le (l : List Ins) : (Lzy l (Jz0 l 60) 0).length ≤ 90 := by
  have h := Qz5 l 60
  rw [Izr]
  omega
theorem loudA_le (l : List Ins) : (loudA l).length ≤ 90 := Nat.le_trans (List.length_filter_le _ _) (withL_le l)
theorem plainA_le (l : List Ins) : (plainA l).length ≤ 60 := Nat.le_trans (List.length_filter_le _ _) (Qz5 l 60)
theorem actOk_small {a : Akt} (h : ActOk a) : a.name.size ≤ maxLen ∧ a.data.size ≤ maxLen := by
  have h0 : noS.size ≤ maxLen := by decide
  refine ⟨?_, by have := h.data; unfold maxLen; omega⟩
  rcases h.name with e | e
  · rw [e]; exact h0
  · simp only [List.mem_cons, List.not_mem_nil, or_false] at e
    rcases e with e | e | e <;> rw [e] <;> decide
theorem withL_small (l : List Ins) : ∀ (zs : List Akt) (i : Nat), (∀ a ∈ zs, a.name.size ≤ maxLen ∧ a.data.size ≤ maxLen) → ∀ a ∈ Lzy l zs i, a.name.size ≤ maxLen ∧ a.data.size ≤ maxLen
  | [], _, _, a, ha => by cases ha
  | z :: zs, i, h, a, ha => by
    rw [Lzy] at ha
    rcases List.mem_cons.1 ha with rfl | ha
    · exact h _ (by simp)
    rcases List.mem_append.1 ha with ha | ha
    · rcases Lzo l i a ha with ⟨s, rfl, _, hs⟩ | ⟨m, rfl, _⟩
      · exact ⟨by show noS.size ≤ maxLen; decide, by unfold maxLen; show s.size ≤ _; omega⟩
      · exact ⟨by show noS.size ≤ maxLen; decide, by show noS.size ≤ maxLen; decide⟩
    · exact withL_small l zs (i + 1) (fun b hb => h b (by simp [hb])) a ha
theorem plainA_small (l : List Ins) : ∀ a ∈ plainA l, a.name.size ≤ maxLen ∧ a.data.size ≤ maxLen := fun a ha => actOk_small (Szr l 60 a ((List.mem_filter.1 ha).1))
theorem loudA_small (l : List Ins) : ∀ a ∈ loudA l, a.name.size ≤ maxLen ∧ a.data.size ≤ maxLen := fun a ha => withL_small l _ 0 (fun b hb => actOk_small (Szr l 60 b hb)) a ((List.mem_filter.1 ha).1)
theorem headL_small (m n : List Ins) (r : Ins) : ∀ a ∈ headL m n r, a.name.size ≤ maxLen ∧ a.data.size ≤ maxLen := fun a ha => by
  unfold headL at ha
  rcases List.mem_append.1 ha with ha | ha
  · exact Tz0 m r oneS 0 (by decide) a ha
  rcases List.mem_append.1 ha with ha | ha
  · exact Tz0 n r twoS 1 (by decide) a ha
  · obtain rfl := List.mem_singleton.1 ha
    exact ⟨by decide, by decide⟩
/-- The two runs leave the same but for the first module's words. -/
theorem quiet_runs (l m n : List Ins) (r : Ins) : Like (runK newK (headL m n r ++ plainA l)).1 (runK newK (headL m n r ++ loudA l)).1 ∧ KOk (runK newK (headL m n r ++ plainA l)).1 ∧ KOk (runK newK (headL m n r ++ loudA l)).1 ∧ (plainA l).length ≤ (loudA l).length := by
  obtain ⟨ok, hd⟩ := head_dev m n r
  have hw := Lzz l (Jz0 l 60) (Jz0 l 60) 0 (fun a ha => ⟨Szr l 60 a ha, ha⟩)
  have h := Gzr _ _ hw ok ok (Like.refl _) hd hd
  refine ⟨?_, Jzj _ Rz3, Jzj _ Rz3, h.2⟩
  rw [Hzk, Hzk]
  exact h.1
theorem Like.tail {k h : Krn} (hl : Like k h) (ok : KOk k) (oh : KOk h) : k.mem.drop 64 = h.mem.drop 64 := by
  apply List.ext_getElem
  · rw [List.length_drop, List.length_drop, ok.l1, oh.l1]
  · intro i h1 h2
    rw [List.length_drop] at h1 h2
    have e := hl.mem (64 + i) (by omega)
    rw [List.getD_eq_getElem?_getD, List.getD_eq_getElem?_getD, List.getElem?_eq_getElem (by omega), List.getElem?_eq_getElem (by omega)] at e
    rw [List.getElem_drop, List.getElem_drop]
    first | exact e | exact e.symm
end Go.Proofs.YtdjamdbamkhblacDoor
