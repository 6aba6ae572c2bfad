/- The tables of texts and of powers of ten: read, and kept. No condition. -/
import Derived.Test.YtdjamdbamkhblacDoorTextP
import Derived.Test.YtdjamdbamkhblacDoorBlk
import Derived.Lib.LaidTab
import Derived.Lib.ItoaNum
import Derived.Sort.Grow
namespace Go.Proofs.YtdjamdbamkhblacDoor
set_option linter.unusedVariables false
set_option linter.unusedSimpArgs false
open Go.RowKit Go.Sort
def TabN (w : World) : Prop := 0 < w.heap.size ∧ ∀ k : Nat, k < 16 → w.cell? ⟨0, k, none⟩ = some (.string ⟨(nmL k).toArray⟩)
theorem TabN.below {w w' : World} (h : TabN w) (hb : Below w.heap.size w w') : TabN w' :=
  ⟨Nat.lt_of_lt_of_le h.1 hb.size, fun k hk => (hb.cell (p := ⟨_, k, none⟩) h.1).trans (h.2 k hk)⟩
def TabW (w : World) : Prop := 3 < w.heap.size ∧ Lib.TabIs Tryd.prog w "internal/strconv.uint64pow10" .u64 Lib.pow10Tab
theorem TabW.below {w w' : World} (h : TabW w) (hb : Below w.heap.size w w') : TabW w' := by
  refine ⟨Nat.lt_of_lt_of_le h.1 hb.size, ?_⟩
  have e := hb.block _ h.1
  have h2 := h.2
  unfold Lib.TabIs World.var? at h2 ⊢
  have hg : Tryd.prog.globalNamed "internal/strconv.uint64pow10" = some 3 := by kernel_rfl
  rw [hg] at h2 ⊢
  simp only [Option.bind_some] at h2 ⊢
  rw [e]
  exact h2
def TabT (w : World) : Prop := Tab w ∧ TabN w ∧ TabW w
theorem TabT.below {w w' : World} (h : TabT w) (hb : Below w.heap.size w w') : TabT w' := ⟨h.1.below hb, h.2.1.below hb, h.2.2.below hb⟩
theorem below_grew (w : World) (k : Nat) (os : Array Obj) : Below w.heap.size w (grow (w.drewN k) os) :=
  ⟨rfl, rfl, rfl, by simp [grow], fun q hq => by
    show (w.heap ++ os)[q]? = _
    rw [Array.getElem?_append_left hq]⟩
end Go.Proofs.YtdjamdbamkhblacDoor
