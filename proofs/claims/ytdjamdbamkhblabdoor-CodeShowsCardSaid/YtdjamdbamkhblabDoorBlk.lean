/- A block that is known whole, and how it is kept: no condition. -/
import Derived.Test.YtdjamdbamkhblabDoorCells
namespace Go.Proofs.YtdjamdbamkhblabDoor
open Go.RowKit

/-- Block g is just the cells cs of element type t, none frozen. -/
def Blk (w : World) (g : Nat) (t : TypeId) (cs : Array Value) : Prop := w.heap[g]? = some (.cells cs t (0, 0))
section
variable {w w' : World} {g : Nat} {t : TypeId} {cs : Array Value}
theorem Blk.lt (h : Blk w g t cs) : g < w.heap.size := by
  rcases Nat.lt_or_ge g w.heap.size with hlt | hge
  · exact hlt
  · unfold Blk at h; rw [Array.getElem?_eq_none hge] at h; cases h
theorem Blk.cell (h : Blk w g t cs) (i : Nat) : w.cell? ⟨g, i, none⟩ = cs[i]? := cell_of_row w g i cs t (0, 0) h
theorem Blk.frozen (h : Blk w g t cs) (i : Nat) : w.frozen? ⟨g, i, none⟩ = false := by
  unfold Blk at h
  simp [World.frozen?, h]
theorem Blk.new (w : World) (t : TypeId) (cs : Array Value) : Blk (w.alloc (.cells cs t)) w.heap.size t cs := heap_alloc_new w _
theorem Blk.drew (h : Blk w g t cs) : Blk w.drew g t cs := h
theorem Blk.drewN (h : Blk w g t cs) (n : Nat) : Blk (w.drewN n) g t cs := h
theorem Blk.alloc (h : Blk w g t cs) (o : Obj) : Blk (w.alloc o) g t cs := (Below.heap_alloc w o g h.lt).trans h
theorem Blk.set_ (h : Blk w g t cs) (i : Nat) (u : Value) : Blk (w.setCell ⟨g, i, none⟩ u) g t (cs.setIfInBounds i u) := by
  unfold Blk at h ⊢
  simp [World.setCell, Array.getElem?_modify, h]
theorem Blk.far (h : Blk w g t cs) {p : Addr} (hp : g ≠ p.block) (u : Value) : Blk (w.setCell p u) g t cs := (Below.heap_setCell w p u g hp).trans h
theorem Blk.below {B : Nat} (h : Blk w g t cs) (hb : Below B w w') (hg : g < B) : Blk w' g t cs := (hb.block g hg).trans h
theorem Blk.grown {row : Option Nat} (h : Blk w g t cs) (hb : w.grownBy w' row) (hg : some g ≠ row) : Blk w' g t cs := (hb.block g h.lt hg).trans h
theorem Blk.ne_ {g' : Nat} {t' : TypeId} {cs' : Array Value} (h : Blk w g t cs) (h' : Blk w g' t' cs') (hne : t ≠ t') : g ≠ g' := by
  rintro rfl
  unfold Blk at h h'
  rw [h] at h'
  injection h' with h'
  injection h' with _ ht
  exact hne ht
theorem Blk.same_ {t' : TypeId} {cs' : Array Value} (h : Blk w g t cs) (h' : Blk w g t' cs') : cs = cs' := by
  unfold Blk at h h'
  rw [h] at h'
  injection h' with h'
  injection h'
theorem own_blk_ne {base : Nat} {e : TypeId} {size n : Nat} {v : Value} {xs : List Value} (h : w.ownsRow base e size v n xs) (hg : Blk w g t cs) (hne : e ≠ t) : v.ownBlock ≠ some g := by
  rcases h.2 with ⟨rfl, _⟩ | ⟨g', cap, cur, rfl, _, hh, _⟩
  · simp [Value.ownBlock]
  · intro he
    have : g' = g := by simpa [Value.ownBlock] using he
    subst this
    exact Blk.ne_ (t := e) hh hg hne rfl
/-- A slice over a block's head. -/
theorem Blk.rd (h : Blk w g t cs) (n size : Nat) (hn : n * size ≤ cs.size) : Rd w w.heap.size size (some ⟨g, 0, none⟩) n (cs.toList.take (n * size)) := by
  refine ⟨by rw [List.length_take, Array.length_toList, Nat.min_eq_left hn], fun _ => ⟨g, 0, rfl, h.lt, fun j u hu => ?_⟩⟩
  rw [Nat.zero_add, h.cell]
  rw [List.getElem?_take] at hu
  split at hu
  · simpa using hu
  · cases hu
end
theorem Blk.new' {w : World} {n : Nat} {t : TypeId} {cs : Array Value} (h : n = w.heap.size) : Blk (w.alloc (.cells cs t)) n t cs := by subst h; exact Blk.new w t cs
/-- The result is laid. -/
def lay5 (w : World) (b : Nat) (u0 u1 u2 u3 u4 : Value) : World := ((((w.setCell ⟨b, 0, none⟩ u0).setCell ⟨b, 1, none⟩ u1).setCell ⟨b, 2, none⟩ u2).setCell ⟨b, 3, none⟩ u3).setCell ⟨b, 4, none⟩ u4
theorem lay5_far (w : World) (b : Nat) (u0 u1 u2 u3 u4 : Value) (q : Nat) (h : q ≠ b) : (lay5 w b u0 u1 u2 u3 u4).heap[q]? = w.heap[q]? := by
  unfold lay5
  rw [Below.heap_setCell _ _ _ _ h, Below.heap_setCell _ _ _ _ h, Below.heap_setCell _ _ _ _ h, Below.heap_setCell _ _ _ _ h, Below.heap_setCell _ _ _ _ h]
theorem lay5_below {B : Nat} {a w : World} (h : Below B a w) (u0 u1 u2 u3 u4 : Value) : Below B a (lay5 w B u0 u1 u2 u3 u4) := by
  unfold lay5
  have h0 := h.setCell (p := ⟨B, 0, none⟩) (Nat.le_refl _) u0
  have h1 := h0.setCell (p := ⟨B, 1, none⟩) (Nat.le_refl _) u1
  have h2 := h1.setCell (p := ⟨B, 2, none⟩) (Nat.le_refl _) u2
  have h3 := h2.setCell (p := ⟨B, 3, none⟩) (Nat.le_refl _) u3
  exact h3.setCell (p := ⟨B, 4, none⟩) (Nat.le_refl _) u4
theorem set_grown (w : World) (p : Addr) (u : Value) : w.grownBy (w.setCell p u) (some p.block) :=
  ⟨rfl, rfl, rfl, by simp, fun q _ hne => Below.heap_setCell w p u q (fun e => hne (by rw [e]))⟩
theorem lay5_grown (w : World) (b : Nat) (u0 u1 u2 u3 u4 : Value) : w.grownBy (lay5 w b u0 u1 u2 u3 u4) (some b) := by
  unfold lay5
  exact ((((set_grown w ⟨b, 0, none⟩ u0).trans (set_grown _ ⟨b, 1, none⟩ u1)).trans (set_grown _ ⟨b, 2, none⟩ u2)).trans (set_grown _ ⟨b, 3, none⟩ u3)).trans (set_grown _ ⟨b, 4, none⟩ u4)
theorem Blk.lay5 {w : World} {b : Nat} {t : TypeId} {cs : Array Value} (h : Blk w b t cs) (hs : cs.size = 5) (u0 u1 u2 u3 u4 : Value) : Blk (lay5 w b u0 u1 u2 u3 u4) b t #[u0, u1, u2, u3, u4] := by
  have e : ((((cs.setIfInBounds 0 u0).setIfInBounds 1 u1).setIfInBounds 2 u2).setIfInBounds 3 u3).setIfInBounds 4 u4 = #[u0, u1, u2, u3, u4] := by
    match cs, hs with
    | ⟨[x0, x1, x2, x3, x4]⟩, _ => rfl
  have h1 := h.set_ 0 u0
  have h2 := h1.set_ 1 u1
  have h3 := h2.set_ 2 u2
  have h4 := h3.set_ 3 u3
  have h5 := h4.set_ 4 u4
  rw [e] at h5
  unfold Go.Proofs.YtdjamdbamkhblabDoor.lay5
  exact h5
/-- make([]T, n) at a written number. -/
theorem mk_lit {P : Program} (w : World) (t e : TypeId) (z : Value) (size bytes n : Nat) (ht : P.underlying t = some (.slice e)) (hinfo : (P.info? e).map (fun i => (i.zero, i.size, i.bytes)) = some (some z, size, bytes))
    (hb : bytes * n ≤ 281474976710656) (hn : n ≤ 9223372036854775807) :
    (Instr.makeSlice t (.int .i64 (n : Int)) (.int .i64 (n : Int))).run P w = .ok (.slice (some ⟨w.heap.size, 0, none⟩) n n) (w.alloc (.cells (madeCells z.cells (n * size)) e)) := by
  obtain ⟨i, hi, hz, hs, hby⟩ := info_parts hinfo
  have h1 : (i.bytes : Int) * (n : Int) ≤ 281474976710656 := by
    rw [hby]
    have : ((bytes * n : Nat) : Int) ≤ ((281474976710656 : Nat) : Int) := Int.ofNat_le.2 hb
    rw [Int.natCast_mul] at this
    exact this
  have h2 := run_make w t e i z ht hi hz .i64 .i64 (n : Int) (n : Int) (by omega) (by omega) h1 (by omega)
  rw [hs] at h2
  exact h2
end Go.Proofs.YtdjamdbamkhblabDoor
