/- What a new kernel reads as: no condition. -/
import Derived.Test.YtdjamdbamkhblaaNew
import Derived.Test.YtdjamdbamkhblaaKernRd
namespace Go.Proofs.Ytdjamdbamkhblaa
open Go.RowKit

/-- The new kernel, as plain data. -/
def newKr : Krn := ⟨[], List.replicate 1024 0, List.replicate 8 default, List.replicate 6 ⟨#[]⟩, ⟨true, List.replicate 6 default⟩ :: List.replicate 3 ⟨false, List.replicate 6 default⟩⟩
theorem below_new1 (w : World) (o : Obj) : Below w.heap.size w (w.alloc o) := (Below.refl _ _).alloc (Nat.le_refl _) o
theorem made_cell (z : Array Value) (n i : Nat) (h : i < n) : (madeCells z n)[i]? = some (z[i % z.size]!) := by simp [madeCells, h]
theorem rd_made {w : World} {g size n m : Nat} {t : TypeId} {z : Array Value} {xs : List Value} (h : Blk w g t (madeCells z (n * size))) (hl : xs.length = n * size) (hx : ∀ i, i < n * size → xs[i]? = some (z[i % z.size]!)) (hm : n = m) : Rd w w.heap.size size (some ⟨g, 0, none⟩) m xs := by
  subst hm
  refine ⟨hl, fun _ => ⟨g, 0, rfl, h.lt, fun j u hu => ?_⟩⟩
  have hj : j < n * size := by rw [← hl]; exact (List.getElem?_eq_some_iff.1 hu).1
  rw [Nat.zero_add, h.cell, made_cell _ _ _ hj, ← hx j hj, hu]
theorem new_ends {w : World} {e : Nat} (h : Blk w e 56 zEnd) : RdE w w.heap.size (some ⟨e, 0, none⟩) (List.replicate 6 default) := by
  refine RdE.of (rd_made (n := 6) (size := 3) h rfl (fun i hi => ?_) (by simp))
  have : i = 0 ∨ i = 1 ∨ i = 2 ∨ i = 3 ∨ i = 4 ∨ i = 5 ∨ i = 6 ∨ i = 7 ∨ i = 8 ∨ i = 9 ∨ i = 10 ∨ i = 11 ∨ i = 12 ∨ i = 13 ∨ i = 14 ∨ i = 15 ∨ i = 16 ∨ i = 17 := by omega
  rcases this with h | h | h | h | h | h | h | h | h | h | h | h | h | h | h | h | h | h <;> subst h <;> rfl
theorem new_nodes {w : World} {g : Nat} (h : Blk w g 54 zNod) : RdD w w.heap.size (some ⟨g, 0, none⟩) (List.replicate 8 default) := by
  refine RdD.of (rd_made (n := 8) (size := 4) h rfl (fun i hi => ?_) (by simp))
  have e : ∀ j : Nat, j < 8 → (nodCells (List.replicate 8 default))[j * 4]? = some (.string ⟨#[]⟩) ∧ (nodCells (List.replicate 8 default))[j * 4 + 1]? = some (.int .i64 0) ∧ (nodCells (List.replicate 8 default))[j * 4 + 2]? = some (.string ⟨#[]⟩) ∧ (nodCells (List.replicate 8 default))[j * 4 + 3]? = some (.int .i64 0) := fun j hj => by
    have := nodCells_at (List.replicate 8 default) j (by simpa using hj)
    simp only [List.getElem_replicate] at this
    exact this
  obtain ⟨e0, e1, e2, e3⟩ := e (i / 4) (by omega)
  have : i = i / 4 * 4 ∨ i = i / 4 * 4 + 1 ∨ i = i / 4 * 4 + 2 ∨ i = i / 4 * 4 + 3 := by omega
  have hm : i % 4 = i - i / 4 * 4 := by omega
  show _ = some ((#[.string ⟨#[]⟩, .int .i64 0, .string ⟨#[]⟩, .int .i64 0] : Array Value)[i % 4]!)
  rcases this with h | h | h | h
  · rw [show i % 4 = 0 by omega, h, e0]; rfl
  · rw [show i % 4 = 1 by omega, h, e1]; rfl
  · rw [show i % 4 = 2 by omega, h, e2]; rfl
  · rw [show i % 4 = 3 by omega, h, e3]; rfl
theorem new_words {w : World} {g : Nat} (h : Blk w g 3 zInt) : RdN w w.heap.size (some ⟨g, 0, none⟩) (List.replicate 1024 0) := fun _ => ⟨g, 0, rfl, h.lt, fun k hk => by
  have hk' : k < 1024 := by rw [List.length_replicate] at hk; exact hk
  rw [Nat.zero_add, h.cell, zInt, made_cell _ _ _ hk', List.getElem_replicate]
  show some ((#[.int .i64 0] : Array Value)[k % 1]!) = _
  rw [Nat.mod_one]
  rfl⟩
theorem new_strs {w : World} {g : Nat} (h : Blk w g 9 zStr) : RdS w w.heap.size (some ⟨g, 0, none⟩) (List.replicate 6 ⟨#[]⟩) := fun _ => ⟨g, 0, rfl, h.lt, fun k hk => by
  have hk' : k < 6 := by rw [List.length_replicate] at hk; exact hk
  rw [Nat.zero_add, h.cell, zStr, made_cell _ _ _ hk', List.getElem_replicate]
  show some ((#[.string ⟨#[]⟩] : Array Value)[k % 1]!) = _
  rw [Nat.mod_one]
  rfl⟩
theorem NewF.krn {w0 w : World} {g1 g2 g3 : Nat} {V : Value} {es : List Nat} (h : NewF w0 w g1 g2 g3 V (pcs 0 es) es) (h4 : es.length = 4) :
    ∃ a : KA, #[.slice none 0 0, sl g1 1024, sl g2 8, sl g3 6, V] = a.cells newKr ∧ KrnAt w w.heap.size a newKr := by
  have ho := h.own
  obtain ⟨A, c, rfl⟩ := own_slice ho
  have hr := Rd.of_own ho
  refine ⟨⟨none, 0, some ⟨g1, 0, none⟩, 1024, some ⟨g2, 0, none⟩, 8, some ⟨g3, 0, none⟩, 6, A, c⟩, by simp only [KA.cells, newKr, sl, List.length_replicate, List.length_cons, List.length_nil], ⟨fun hl => absurd hl (by show ¬ 0 < 0; omega), new_words h.b1, new_nodes h.b2, new_strs h.b3, fun _ => ?_, by show 0 * 64 ≤ _; omega, by simp only [newKr, List.length_replicate]; omega, by simp only [newKr, List.length_replicate]; omega, by simp only [newKr, List.length_replicate]; omega, by simp only [newKr, List.length_replicate, List.length_cons]; omega, fun _ => ⟨rfl, rfl⟩, fun e => (nomatch e), fun e => (nomatch e), fun e => (nomatch e), own_nil ho⟩⟩
  obtain ⟨b, o, e, hb, hc⟩ := hr.2 (by omega)
  refine ⟨b, o, e, hb, fun k hk => ?_⟩
  match es, h4, h, hc with
  | [e0, e1, e2, e3], _, h, hc =>
    have pe : ∀ e ∈ [e0, e1, e2, e3], ∀ bl : Bool, PrcAt w w.heap.size (some ⟨e, 0, none⟩) 6 ⟨bl, List.replicate 6 default⟩ := fun e he bl => ⟨new_ends (h.ends e he), by show 6 * 24 ≤ _; omega, fun x => (nomatch x)⟩
    have hk4 : k < 4 := hk
    match k, hk4 with
    | 0, _ => exact ⟨_, _, hc 0 _ rfl, hc 1 _ rfl, pe e0 (by simp) true⟩
    | 1, _ => exact ⟨_, _, hc 2 _ rfl, hc 3 _ rfl, pe e1 (by simp) false⟩
    | 2, _ => exact ⟨_, _, hc 4 _ rfl, hc 5 _ rfl, pe e2 (by simp) false⟩
    | 3, _ => exact ⟨_, _, hc 6 _ rfl, hc 7 _ rfl, pe e3 (by simp) false⟩
end Go.Proofs.Ytdjamdbamkhblaa
