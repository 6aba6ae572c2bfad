/- Lists of instructions and of integers as rows of cells; rows of the call's own read as lists: no condition. -/
import Derived.Test.YtdjamdbamkhblacDoorRd
namespace Go.Proofs.YtdjamdbamkhblacDoor
open Go.RowKit

def insCells (l : List Ins) : List Value := l.flatMap fun i => [.int .i64 i.op, .int .i64 i.a, .int .i64 i.b, .int .i64 i.c]
def intCells (l : List Int) : List Value := l.map (Value.int .i64)

theorem insCells_length (l : List Ins) : (insCells l).length = l.length * 4 := by
  induction l with
  | nil => rfl
  | cons i r ih => simp [insCells] at ih ⊢; omega
theorem insCells_at (l : List Ins) : ∀ (k : Nat) (h : k < l.length), (insCells l)[k * 4]? = some (.int .i64 l[k].op) ∧ (insCells l)[k * 4 + 1]? = some (.int .i64 l[k].a) ∧ (insCells l)[k * 4 + 2]? = some (.int .i64 l[k].b) ∧ (insCells l)[k * 4 + 3]? = some (.int .i64 l[k].c) := by
  induction l with
  | nil => intro k h; cases h
  | cons i r ih =>
    intro k h
    have hc : insCells (i :: r) = [.int .i64 i.op, .int .i64 i.a, .int .i64 i.b, .int .i64 i.c] ++ insCells r := by simp [insCells]
    rw [hc]
    cases k with
    | zero => exact ⟨rfl, rfl, rfl, rfl⟩
    | succ k =>
      have h4 : ∀ j, ([.int .i64 i.op, .int .i64 i.a, .int .i64 i.b, .int .i64 i.c] ++ insCells r : List Value)[(k + 1) * 4 + j]? = (insCells r)[k * 4 + j]? := fun j => by
        rw [List.getElem?_append_right (by simp; omega)]
        congr 1
        simp; omega
      have := ih k (by simpa using h)
      exact ⟨(h4 0).trans this.1, (h4 1).trans this.2.1, (h4 2).trans this.2.2.1, (h4 3).trans this.2.2.2⟩
theorem RdI.rd {w : World} {B : Nat} {A : Option Addr} {l : List Ins} (h : RdI w B A l) : Rd w B 4 A l.length (insCells l) :=
  ⟨insCells_length l, fun hn => by
    obtain ⟨b, o, e, hb, hc⟩ := h hn
    refine ⟨b, o, e, hb, fun j u hu => ?_⟩
    have hj : j < l.length * 4 := by rw [← insCells_length]; exact (List.getElem?_eq_some_iff.1 hu).1
    have hm : ∃ q, q < l.length ∧ (j = q * 4 ∨ j = q * 4 + 1 ∨ j = q * 4 + 2 ∨ j = q * 4 + 3) := ⟨j / 4, by omega, by omega⟩
    obtain ⟨q, hq, hm⟩ := hm
    obtain ⟨x0, x1, x2, x3⟩ := insCells_at l q hq
    obtain ⟨c0, c1, c2, c3⟩ := hc q hq
    rcases hm with h | h | h | h <;> subst h
    · rw [x0] at hu; cases hu; exact c0
    · rw [x1] at hu; cases hu; exact c1
    · rw [x2] at hu; cases hu; exact c2
    · rw [x3] at hu; cases hu; exact c3⟩
theorem intCells_at (l : List Int) (k : Nat) (h : k < l.length) : (intCells l)[k]? = some (.int .i64 l[k]) := by simp [intCells, h]
theorem RdN.rd {w : World} {B : Nat} {A : Option Addr} {l : List Int} (h : RdN w B A l) : Rd w B 1 A l.length (intCells l) :=
  ⟨by simp [intCells], fun hn => by
    obtain ⟨b, o, e, hb, hc⟩ := h hn
    refine ⟨b, o, e, hb, fun j u hu => ?_⟩
    have hj : j < l.length := by simpa [intCells] using (List.getElem?_eq_some_iff.1 hu).1
    rw [intCells_at l j hj] at hu; cases hu; exact hc j hj⟩
theorem ins_one (l : List Ins) : ∀ u ∈ insCells l, u.oneCell' = true := by
  intro u hu
  simp only [insCells, List.mem_flatMap] at hu
  obtain ⟨i, _, hu⟩ := hu
  simp at hu
  rcases hu with h | h | h | h <;> subst h <;> rfl
theorem Rd.of_own {w : World} {base : Nat} {e : TypeId} {size n c : Nat} {A : Option Addr} {xs : List Value} (h : w.ownsRow base e size (.slice A n c) n xs) : Rd w w.heap.size size A n xs := by
  refine ⟨h.1, fun hn => ?_⟩
  obtain ⟨g, cap, hv, _, hlt⟩ := h.form hn
  have hA : A = some ⟨g, 0, none⟩ := by injection hv
  subst hA
  refine ⟨g, 0, rfl, hlt, fun j u hu => ?_⟩
  have := h.cells (g := g) rfl j u hu
  rwa [add_plain] at this
theorem RdI.of {w : World} {B : Nat} {A : Option Addr} {l : List Ins} (h : Rd w B 4 A l.length (insCells l)) : RdI w B A l := fun hl => by
  obtain ⟨b, o, e, hb, hc⟩ := h.2 hl
  refine ⟨b, o, e, hb, fun k hk => ?_⟩
  obtain ⟨x0, x1, x2, x3⟩ := insCells_at l k hk
  exact ⟨hc _ _ x0, hc _ _ x1, hc _ _ x2, hc _ _ x3⟩
theorem RdN.of {w : World} {B : Nat} {A : Option Addr} {l : List Int} (h : Rd w B 1 A l.length (intCells l)) : RdN w B A l := fun hl => by
  obtain ⟨b, o, e, hb, hc⟩ := h.2 hl
  exact ⟨b, o, e, hb, fun k hk => hc _ _ (intCells_at l k hk)⟩
end Go.Proofs.YtdjamdbamkhblacDoor
