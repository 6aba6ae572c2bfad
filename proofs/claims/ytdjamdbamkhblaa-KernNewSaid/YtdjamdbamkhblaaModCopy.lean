/- The walk of module.Copy: new memory that reads as the module did. -/
import Derived.Test.YtdjamdbamkhblaaCloneMod
import Derived.Test.YtdjamdbamkhblaaSame
import Derived.Test.YtdjamdbamkhblaaCells
namespace Go.Proofs.Ytdjamdbamkhblaa
open Go.RowKit

set_option maxHeartbeats 3200000 in
theorem ModCopy_any (m : Mod) (A A' : Option Addr) (c c' : Nat) (w : World) (hr : RdI w w.heap.size A m.code) (hr' : RdN w w.heap.size A' m.data)
    (hn : A = none → m.code.length = 0 ∧ c = 0) (hn' : A' = none → m.data.length = 0 ∧ c' = 0) (hl : m.code.length * 32 ≤ 140737488351232) (hl' : m.data.length * 8 ≤ 140737488351232) :
    Calls Try.prog 14 #[.agg #[.string m.name, .slice A m.code.length c, .slice A' m.data.length c']] w fun e w' =>
      ∃ v u, e = .returned (.agg #[.string m.name, v, u]) ∧ w'.ownsRow w.heap.size 59 4 v m.code.length (insCells m.code) ∧ w'.ownsRow w.heap.size 3 1 u m.data.length (intCells m.data) ∧ Below w.heap.size w w' := by
  have HR := Lib.hid hr.rd
  have HR' := Lib.hid hr'.rd
  have HN := Lib.hid hn
  have HN' := Lib.hid hn'
  clear hr hr' hn hn'
  go_enter Try.func14, Try.ntmps14
  go_wp2_with fail
  go_region_held3 (fun w' => w'.cell? ⟨w.heap.size, 0, none⟩ = some (.string m.name) ∧ w'.cell? ⟨w.heap.size, 1, none⟩ = some (.slice A m.code.length c) ∧ w'.cell? ⟨w.heap.size, 2, none⟩ = some (.slice A' m.data.length c'))
    (first
      | (go_split_ands; refine ⟨?_, ?_, ?_⟩ <;> (rw [World.cell?_setCell_far _ _ _ _ (show w.heap.size + 1 ≠ w.heap.size by omega), World.cell?_setCell_far _ _ _ _ (show w.heap.size + 1 ≠ w.heap.size by omega), World.cell?_setCell_far _ _ _ _ (show w.heap.size + 1 ≠ w.heap.size by omega)]; assumption))
      | (go_split_ands; refine ⟨?_, ?_, ?_⟩ <;> (rw [hc2 _ _ (by first | omega | (simp; omega) | (have := hb1.size; simp at this; omega) | (have := hb1.size; simp at this ⊢; omega))]; assumption))
      | (go_split_ands; refine ⟨?_, ?_, ?_⟩ <;> (rw [hc1 _ _ (by simp; omega)]; assumption))
      | go_keep)
    (first
      | (go_at_call 22; refine (Clone_ins A m.code.length c (insCells m.code) _ ?_ HN.out (ins_one _) hl).mono ?_; (exact Rd.more (Rd.below HR.out (Below.drew (((Below.refl _ _).alloc (Nat.le_refl _) _).alloc (by simp) _))) (by simp; omega)); rintro e w1 ⟨a1, k1, rfl, hv1, hb1⟩; have p1 : w.heap.size + 1 < w1.heap.size := Nat.lt_of_lt_of_le (by simp) hb1.size; have p0 : w.heap.size < w1.heap.size := (by omega); obtain ⟨hc1, hf1⟩ := bcell hb1)
      | (go_at_call 23; refine (Clone_int A' m.data.length c' (intCells m.data) _ ?_ HN'.out (int_one _) hl').mono ?_; (exact Rd.more (Rd.below HR'.out (Below.trans (Below.drew (((Below.refl _ _).alloc (Nat.le_refl _) _).alloc (by simp) _)) (hb1.mono (by simp; omega)))) (by omega)); rintro e w2 ⟨a2, k2, rfl, hv2, hb2⟩; have p3 : w.heap.size + 1 < w2.heap.size := Nat.lt_of_lt_of_le (by simpa using p1) hb2.size; have p2 : w.heap.size < w2.heap.size := (by omega); obtain ⟨hc2, hf2⟩ := bcell hb2))
  have o1 := ownsRow_setCell_below (ownsRow_setCell_below (ownsRow_setCell_below (own_below hv1 hb2) (a := ⟨w.heap.size + 1, 0, none⟩) (by simp) (.string m.name)) (a := ⟨w.heap.size + 1, 1, none⟩) (by simp) (.slice a1 m.code.length k1)) (a := ⟨w.heap.size + 1, 2, none⟩) (by simp) (.slice a2 m.data.length k2)
  have o2 := ownsRow_setCell_below (ownsRow_setCell_below (ownsRow_setCell_below hv2 (a := ⟨w.heap.size + 1, 0, none⟩) p1 (.string m.name)) (a := ⟨w.heap.size + 1, 1, none⟩) p1 (.slice a1 m.code.length k1)) (a := ⟨w.heap.size + 1, 2, none⟩) p1 (.slice a2 m.data.length k2)
  have O1 := Lib.hid o1
  have O2 := Lib.hid o2
  clear o1 o2 hv1 hv2
  go_wp2
  refine bodyPost_ret (v := .agg #[.string m.name, .slice a1 m.code.length k1, .slice a2 m.data.length k2]) ?_ rfl ⟨_, _, rfl, own_base (B := w.heap.size) O1.out (by simp; omega), own_base (B := w.heap.size) O2.out (by omega), ?_⟩
  · have z0 : w2.cell? ⟨w.heap.size + 1, 0, none⟩ = some (.string ⟨#[]⟩) := (hc2 _ _ p1).trans ((hc1 _ _ (by simp)).trans (by simp))
    have z1 : w2.cell? ⟨w.heap.size + 1, 1, none⟩ = some (.slice none 0 0) := (hc2 _ _ p1).trans ((hc1 _ _ (by simp)).trans (by simp))
    have z2 : w2.cell? ⟨w.heap.size + 1, 2, none⟩ = some (.slice none 0 0) := (hc2 _ _ p1).trans ((hc1 _ _ (by simp)).trans (by simp))
    simp [results, Try.results14, go_sem, z0, z1, z2]
  · have b0 : Below w.heap.size w ((w.alloc (.cells #[.string m.name, .slice A m.code.length c, .slice A' m.data.length c'] 40)).alloc (.cells #[.string ⟨#[]⟩, .slice none 0 0, .slice none 0 0] 40)).drew := (((Below.refl _ _).alloc (Nat.le_refl _) _).alloc (by simp) _).drew
    have b1 := (b0.trans (hb1.mono (by simp; omega))).trans (hb2.mono (by omega))
    exact ((b1.setCell (by simp) _).setCell (by simp) _).setCell (by simp) _
end Go.Proofs.Ytdjamdbamkhblaa
