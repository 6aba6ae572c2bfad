/- A row of acts of a call's own; an append of a literal; one slice in a block. No condition. -/
import Derived.Test.YtdjamdbamkhblacDoorConcat
import Derived.Test.YtdjamdbamkhblacDoorG30
import Derived.Test.YtdjamdbamkhblacDoorG29
import Derived.BigQuiet
import Derived.Deep.DeepCutAuto
namespace Go.Proofs.YtdjamdbamkhblacDoor
open Go.RowKit
set_option linter.unusedVariables false
set_option linter.unusedSimpArgs false
/-- A row of acts of this call's own. -/
structure RowA (w W : World) (A : Option Addr) (c : Nat) (l : List Akt) : Prop where
  own : W.ownsRow w.heap.size 26 6 (.slice A l.length c) l.length (aktCells l)
  be : Below w.heap.size w W
theorem RowA.below {w W W' : World} {A : Option Addr} {c : Nat} {l : List Akt} (h : RowA w W A c l) (hb : Below W.heap.size W W') : RowA w W' A c l := ⟨own_below h.own hb, h.be.trans (hb.mono h.be.size)⟩
theorem RowA.lit {w W : World} (hb : Below w.heap.size w W) {l : List Akt} {cs : Array Value} (hcs : cs = (aktCells l).toArray) (hl : l.length ≤ 100000) : RowA w (W.alloc (.cells cs 26)) (some ⟨W.heap.size, 0, none⟩) l.length l := by
  have hs : cs.size = l.length * 6 := by rw [hcs]; simp [aktCells_len]
  have h := World.ownsRow_lit (base := w.heap.size) (e := 26) (size := 6) W cs l.length hb.size (by simp [maxLen]; omega) hs
  rw [hcs] at h
  rw [hcs]
  exact ⟨h, hb.alloc hb.size _⟩
theorem wp_app {w W : World} {ops : Array Oper} {rest : List Oper} {o : Oper} {a : Act} {Q : Exit → Act → World → Prop} {A : Option Addr} {c : Nat} {l : List Akt} (x : List Akt) {cs : Array Value} {m c2 : Nat} (hW : RowA w W A c l) (hgd : o.guard = none) (s y : Operand)
    (ho : o.op = .call { callee := .builtin .append, args := #[s, y], argTypes := #[27, 27] }) (hs : a.eval s = .slice A l.length c) (hy : a.eval y = .slice (some ⟨W.heap.size, 0, none⟩) m c2) (hm : m = x.length) (hcs : cs = (aktCells x).toArray) (hlen : l.length + x.length ≤ 100000)
    (h : ∀ A' c' w', RowA w w' A' c' (l ++ x) → wpList Tryd.prog ops Q rest (a.put o.dst (.slice A' (l ++ x).length c')) w') : wpList Tryd.prog ops Q (o :: rest) a (W.alloc (.cells cs 26)) := by
  obtain ⟨i0, hi0, hz0, hz1, hz2⟩ := info_parts info_Akt
  have hba := (Below.refl W.heap.size W).alloc (Nat.le_refl _) (.cells cs 26)
  have hW2 := hW.below hba
  have hr := (RdA.blk (Blk.new W 26 cs) hcs).rd
  rw [hm] at hy
  refine wpList_append_rd _ hgd s y _ ho w.heap.size 26 i0 _ 6 64 Tryd.underlying27 hi0 hz0 hz1 hz2 rfl (by omega) (.slice A l.length c) l.length (aktCells l) hs hW2.own _ _ x.length c2 (aktCells x) hy hr (akt_one _) (by simp [maxLen]; omega) (by omega) hW2.be.size ?_
  intro v1 w3 hv1 hg1 _
  obtain ⟨A2, k2, rfl⟩ := own_slice hv1
  rw [← List.length_append]
  refine h A2 k2 w3 ⟨?_, hW2.be.grown hg1 hW2.be.size fun q hq => (hW2.own.lt q hq).1⟩
  rw [List.length_append, aktCells_app]
  exact hv1
/-- One slice, laid in a block. -/
theorem Sls.one {w W : World} {A : Option Addr} {c : Nat} {l : List Akt} {t : TypeId} (h : RowA w W A c l) : Sls (W.alloc (.cells #[.slice A l.length c] t)) (W.alloc (.cells #[.slice A l.length c] t)).heap.size W.heap.size [(A, c, l)] := by
  have hba := (Below.refl W.heap.size W).alloc (Nat.le_refl _) (.cells #[.slice A l.length c] t)
  refine ⟨by simp, fun q hq => ?_, fun q hq => ?_⟩
  · have : q = 0 := by simp at hq; omega
    subst this
    exact (Blk.new W t #[.slice A l.length c]).cell 0
  · have : q = 0 := by simp at hq; omega
    subst this
    exact RdA.of ((Rd.of_own (h.below hba).own))
end Go.Proofs.YtdjamdbamkhblacDoor
