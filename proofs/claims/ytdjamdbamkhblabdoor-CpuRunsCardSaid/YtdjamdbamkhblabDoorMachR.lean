/- The reference's machine in memory, and how each step keeps it: no condition. -/
import Derived.Test.YtdjamdbamkhblabDoorMach
namespace Go.Proofs.YtdjamdbamkhblabDoor
open Go.RowKit

/-- The outcome's cells. -/
def ocCells (en : Nat) (r : List Nat) (T M : Value) : Array Value :=
  #[natV en, natV (r.getD 0 0), natV (r.getD 1 0), natV (r.getD 2 0), natV (r.getD 3 0), natV (r.getD 4 0), natV (r.getD 5 0), natV (r.getD 6 0), natV (r.getD 7 0), T, M]
theorem oc_reg {T M : Value} {en : Nat} {r : List Nat} (k : Nat) (hk : k ≤ 7) : (ocCells en r T M)[1 + k]? = some (natV (r.getD k 0)) := by
  match k, hk with
  | 0, _ => rfl
  | 1, _ => rfl
  | 2, _ => rfl
  | 3, _ => rfl
  | 4, _ => rfl
  | 5, _ => rfl
  | 6, _ => rfl
  | 7, _ => rfl
  | k + 8, h => omega
theorem oc_set {T M : Value} {en : Nat} {r : List Nat} (hr : r.length = 8) (k : Nat) (hk : k ≤ 7) (v : Nat) : (ocCells en r T M).setIfInBounds (1 + k) (natV v) = ocCells en (r.set k v) T M := by
  match r, hr with
  | [a0, a1, a2, a3, a4, a5, a6, a7], _ =>
    match k, hk with
    | 0, _ => rfl
    | 1, _ => rfl
    | 2, _ => rfl
    | 3, _ => rfl
    | 4, _ => rfl
    | 5, _ => rfl
    | 6, _ => rfl
    | 7, _ => rfl
    | k + 8, h => omega
structure Ref (w0 w : World) (g : Nat) (s : Mc) (en : Nat) (B T M : Value) : Prop where
  below : Below w0.heap.size w0 w
  lo : w0.heap.size ≤ g
  blk : Blk w g 35 (ocCells en s.regs T M)
  ob : w.ownsRow w0.heap.size 3 1 B s.back.length (natsV s.back)
  ot : w.ownsRow w0.heap.size 3 1 T s.told.length (natsV s.told)
  om : w.ownsRow w0.heap.size 3 1 M s.mem.length (natsV s.mem)
  bt : B.ownBlock = none ∨ B.ownBlock ≠ T.ownBlock
  bm : B.ownBlock = none ∨ B.ownBlock ≠ M.ownBlock
  tm : T.ownBlock = none ∨ T.ownBlock ≠ M.ownBlock
section
variable {w0 w : World} {g en : Nat} {B T M : Value} {s : Mc}
theorem Ref.later (h : Ref w0 w g s en B T M) {w' : World} (hb : Below w.heap.size w w') : Ref w0 w' g s en B T M :=
  ⟨h.below.trans (hb.mono h.below.size), h.lo, h.blk.below hb h.blk.lt, own_below h.ob hb, own_below h.ot hb, own_below h.om hb, h.bt, h.bm, h.tm⟩
/-- A cell of the machine's own block is stored. -/
theorem Ref.cellset (h : Ref w0 w g s en B T M) (i : Nat) (u : Value) {s' : Mc} {en' : Nat} (hcs : (ocCells en s.regs T M).setIfInBounds i u = ocCells en' s'.regs T M)
    (hb : s'.back = s.back) (ht : s'.told = s.told) (hm : s'.mem = s.mem) : Ref w0 (w.setCell ⟨g, i, none⟩ u) g s' en' B T M := by
  have kp : ∀ {V : Value} {n : Nat} {xs : List Value}, w.ownsRow w0.heap.size 3 1 V n xs → (w.setCell ⟨g, i, none⟩ u).ownsRow w0.heap.size 3 1 V n xs := fun ho => ho.kept (set_grown' i u) (.inr (own_blk_ne ho h.blk (by decide)))
  refine ⟨h.below.setCell (p := ⟨g, i, none⟩) h.lo u, h.lo, ?_, ?_, ?_, ?_, h.bt, h.bm, h.tm⟩
  · have := h.blk.set_ i u
    rw [hcs] at this
    exact this
  · rw [hb]; exact kp h.ob
  · rw [ht]; exact kp h.ot
  · rw [hm]; exact kp h.om
theorem Ref.setpos (h : Ref w0 w g s en B T M) (p : Nat) : Ref w0 w g { s with pos := p } en B T M := ⟨h.below, h.lo, h.blk, h.ob, h.ot, h.om, h.bt, h.bm, h.tm⟩
theorem Ref.setend (h : Ref w0 w g s en B T M) (p : Nat) : Ref w0 (w.setCell ⟨g, 0, none⟩ (natV p)) g s p B T M :=
  h.cellset 0 _ rfl rfl rfl rfl
theorem Ref.setreg (h : Ref w0 w g s en B T M) (hr : s.regs.length = 8) (k : Nat) (hk : k ≤ 7) (v : Nat) : Ref w0 (w.setCell ⟨g, 1 + k, none⟩ (natV v)) g { s with regs := s.regs.set k v } en B T M :=
  h.cellset (1 + k) _ (oc_set hr k hk v) rfl rfl rfl
theorem Ref.setmem (h : Ref w0 w g s en B T M) {q : Nat} (hq : M.ownBlock = some q) (k : Nat) (v : Nat) : Ref w0 (w.setCell ⟨q, k, none⟩ (natV v)) g { s with mem := s.mem.set k v } en B T M := by
  have kp : ∀ {V : Value} {n : Nat} {xs : List Value}, w.ownsRow w0.heap.size 3 1 V n xs → V.ownBlock = none ∨ V.ownBlock ≠ M.ownBlock → (w.setCell ⟨q, k, none⟩ (natV v)).ownsRow w0.heap.size 3 1 V n xs := fun ho hne => ho.kept (set_grown' k _) (by rw [← hq]; exact hne)
  refine ⟨h.below.setCell (p := ⟨q, k, none⟩) (h.om.lt q hq).1 _, h.lo, ?_, kp h.ob h.bm, kp h.ot h.tm, ?_, h.bt, h.bm, h.tm⟩
  · exact h.blk.far (p := ⟨q, k, none⟩) (fun e => own_blk_ne h.om h.blk (by decide) (by rw [hq, e])) _
  · show (w.setCell ⟨q, k, none⟩ (natV v)).ownsRow w0.heap.size 3 1 M (s.mem.set k v).length (natsV (s.mem.set k v))
    rw [List.length_set, natsV_set]
    exact own_set h.om hq k _
/-- Something was told. -/
theorem Ref.pushtold (h : Ref w0 w g s en B T M) {W w1 : World} (hW : Below w.heap.size w W) {g' cap : Nat} {x : Nat} {n' : Nat} (hown : w1.ownsRow w0.heap.size 3 1 (.slice (some ⟨g', 0, none⟩) n' cap) n' (natsV s.told ++ [natV x])) (hn : n' = s.told.length + 1)
    (hgrow : W.grownBy w1 T.ownBlock) (hat : T.ownBlock = some g' ∨ g' = W.heap.size) :
    Ref w0 (w1.setCell ⟨g, 9, none⟩ (.slice (some ⟨g', 0, none⟩) n' cap)) g { s with told := s.told ++ [x] } en B (.slice (some ⟨g', 0, none⟩) n' cap) M := by
  have h1 := h.later hW
  have hgw : W.heap.size ≤ w1.heap.size := hgrow.size
  have kb := h1.ob.kept hgrow h1.bt
  have km := h1.om.kept hgrow (ne_comm' h1.tm)
  have kk := h1.blk.grown hgrow (fun e => own_blk_ne h1.ot h1.blk (by decide) e.symm)
  have hnew : (Value.slice (some ⟨g', 0, none⟩) n' cap).ownBlock = T.ownBlock ∨ (Value.slice (some ⟨g', 0, none⟩) n' cap).ownBlock = some W.heap.size := by
    rcases hat with e | e
    · exact .inl (by rw [e]; rfl)
    · exact .inr (by rw [← e]; rfl)
  generalize hv : Value.slice (some ⟨g', 0, none⟩) n' cap = T' at *
  have kp : ∀ {V : Value} {n : Nat} {xs : List Value}, w1.ownsRow w0.heap.size 3 1 V n xs → (w1.setCell ⟨g, 9, none⟩ T').ownsRow w0.heap.size 3 1 V n xs := fun ho => ho.kept (set_grown' 9 T') (.inr (own_blk_ne ho kk (by decide)))
  refine ⟨?_, h.lo, ?_, kp kb, ?_, kp km, ?_, h.bm, ?_⟩
  · exact (h1.below.grown hgrow h1.below.size (fun q hq => (h1.ot.lt q hq).1)).setCell (p := ⟨g, 9, none⟩) h.lo _
  · exact kk.set_ 9 T'
  · show (w1.setCell ⟨g, 9, none⟩ T').ownsRow w0.heap.size 3 1 T' (s.told ++ [x]).length (natsV (s.told ++ [x]))
    rw [List.length_append, natsV_app]
    rw [hn] at hown
    exact kp hown
  · rcases hnew with e | e
    · rw [e]; exact h.bt
    · rw [e]; exact lt_ne h1.ob (Nat.le_refl _)
  · rcases hnew with e | e
    · rw [e]; exact h.tm
    · rw [e]; exact ne_comm' (lt_ne h1.om (Nat.le_refl _))
/-- A place to come back to is laid by. -/
theorem Ref.pushback (h : Ref w0 w g s en B T M) {W w1 : World} (hW : Below w.heap.size w W) {g' cap : Nat} {x : Nat} {n' : Nat} (hown : w1.ownsRow w0.heap.size 3 1 (.slice (some ⟨g', 0, none⟩) n' cap) n' (natsV s.back ++ [natV x])) (hn : n' = s.back.length + 1)
    (hgrow : W.grownBy w1 B.ownBlock) (hat : B.ownBlock = some g' ∨ g' = W.heap.size) :
    Ref w0 w1 g { s with back := s.back ++ [x] } en (.slice (some ⟨g', 0, none⟩) n' cap) T M := by
  have h1 := h.later hW
  have hgw : W.heap.size ≤ w1.heap.size := hgrow.size
  have kt := h1.ot.kept hgrow (ne_comm' h1.bt)
  have km := h1.om.kept hgrow (ne_comm' h1.bm)
  have kk := h1.blk.grown hgrow (fun e => own_blk_ne h1.ob h1.blk (by decide) e.symm)
  have hnew : (Value.slice (some ⟨g', 0, none⟩) n' cap).ownBlock = B.ownBlock ∨ (Value.slice (some ⟨g', 0, none⟩) n' cap).ownBlock = some W.heap.size := by
    rcases hat with e | e
    · exact .inl (by rw [e]; rfl)
    · exact .inr (by rw [← e]; rfl)
  generalize hv : Value.slice (some ⟨g', 0, none⟩) n' cap = B' at *
  refine ⟨?_, h.lo, ?_, ?_, kt, km, ?_, ?_, h.tm⟩
  · exact (h1.below.grown hgrow h1.below.size (fun q hq => (h1.ob.lt q hq).1))
  · exact kk
  · show w1.ownsRow w0.heap.size 3 1 B' (s.back ++ [x]).length (natsV (s.back ++ [x]))
    rw [List.length_append, natsV_app]
    rw [hn] at hown
    exact hown
  · rcases hnew with e | e
    · rw [e]; exact h.bt
    · rw [e]; exact ne_comm' (lt_ne h1.ot (Nat.le_refl _))
  · rcases hnew with e | e
    · rw [e]; exact h.bm
    · rw [e]; exact ne_comm' (lt_ne h1.om (Nat.le_refl _))
/-- The last place is taken off. -/
theorem Ref.popback {g' cap : Nat} (h : Ref w0 w g s en (.slice (some ⟨g', 0, none⟩) s.back.length cap) T M) (k : Nat) (hk : k ≤ s.back.length) :
    Ref w0 w g { s with back := s.back.take k } en (.slice (some ⟨g', 0, none⟩) k cap) T M := by
  refine ⟨h.below, h.lo, h.blk, ?_, h.ot, h.om, h.bt, h.bm, h.tm⟩
  have := own_take h.ob k hk
  rw [show (s.back.take k).length = k by rw [List.length_take]; omega, natsV, ← List.map_take] at *
  exact this
end
end Go.Proofs.YtdjamdbamkhblabDoor
