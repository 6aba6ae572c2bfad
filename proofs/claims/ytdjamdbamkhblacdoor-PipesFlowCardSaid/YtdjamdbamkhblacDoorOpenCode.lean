/- Opening a slice of structs of four integers (what dce.py strikes from XLaw where the base does not name it). -/
import Derived.Test.YtdjamdbamkhblacDoorG02
namespace Go.Proofs.YtdjamdbamkhblacDoor
open Go.RowKit Go.WideShapes Go.ChangeShapes Go.ChangeAt Go.Deep

section
variable {H : Type} {enc : TypeId × Value → H} {P : Program}
theorem open_rows {W : World} {base : Nat} {spare : Nat → Bool} {held : Bool} {t e : TypeId} {C : Nat} {v : Value} {y : DataW H × List MemPlace} {fuel : Nat}
    (ht : P.underlying t = some (.slice e)) (hC : P.cellsOf e = C) (hC0 : 0 < C) (hf : DataW.trod enc P W base spare held fuel t [v] = some y) :
    ∃ (A : Option Addr) (n c : Nat), v = .slice A n c ∧ n ≤ c ∧ c ≤ maxLen ∧ (A = none → n = 0 ∧ c = 0) ∧
      (0 < n → ∃ b o, A = some ⟨b, o, none⟩ ∧ b < W.heap.size ∧ ∀ i, i < n → ∃ (cs : List Value) (fuel : Nat) (y : DataW H × List MemPlace), cs.length = C ∧ (∀ j, j < C → W.cell? ⟨b, o + i * C + j, none⟩ = cs[j]?) ∧
        DataW.trod enc P W base spare held fuel e cs = some y) := by
  rcases open_slice ht hf with ⟨hcs, _⟩ | ⟨a, len, cap, m, n', D, Pl, hcs, _, hl, hm, hmm, _, hi⟩
  · obtain rfl : v = .slice none 0 0 := by simpa using hcs
    exact ⟨none, 0, 0, rfl, Nat.le_refl _, Nat.zero_le _, fun _ => ⟨rfl, rfl⟩, fun h => absurd h (by omega)⟩
  · obtain rfl : v = .slice (some a) len cap := by simpa using hcs
    obtain ⟨n, rfl⟩ : ∃ n, n = len := ⟨_, rfl⟩
    obtain ⟨c, rfl⟩ : ∃ c, c = cap := ⟨_, rfl⟩
    refine ⟨some a, n, c, rfl, hl, hm, fun h => (nomatch h), fun hn => ?_⟩
    have hnm : n ≤ m := by rw [hmm]; split <;> omega
    have spot : ∀ (q : Addr) (u : Value), W.cell? q = some u → q = ⟨q.block, q.off, none⟩ := by
      rintro ⟨b, o, sp⟩ u hq
      cases sp with
      | none => rfl
      | some x => simp [World.cell?] at hq; split at hq <;> simp at hq
    have key : ∀ i, i < n → ∃ cs', cs'.length = C ∧ (∀ j, j < C → W.cell? (a.add (i * C + j)) = cs'[j]?) ∧ DataW.trod enc P W base spare held n' e cs' = some (D i, Pl i) := by
      intro i hin
      obtain ⟨cs', h1, h2⟩ := hi i (by omega)
      rw [hC] at h1
      obtain ⟨_, hlen, hat⟩ := World.cells?_some h1
      exact ⟨cs', hlen, fun j hj => by rw [← Go.Deep.add_add]; exact hat j hj, h2⟩
    obtain ⟨cs0, hl0, hc0, _⟩ := key 0 hn
    have h00 := hc0 0 hC0
    rw [List.getElem?_eq_getElem (by omega), show a.add (0 * C + 0) = a by simp [Addr.add]] at h00
    have ha := spot _ _ h00
    have hlt := World.block_lt_of_cell? W _ h00
    refine ⟨a.block, a.off, congrArg some ha, hlt, fun i hin => ?_⟩
    obtain ⟨cs', h1, h2, h3⟩ := key i hin
    refine ⟨cs', n', _, h1, fun j hj => ?_, h3⟩
    rw [← h2 j hj]
    by_cases hz : i * C + j = 0
    · rw [Nat.add_assoc, hz, show a.add 0 = a by simp [Addr.add], Nat.add_zero, ← ha]
    · unfold Addr.add
      rw [if_neg hz, Nat.add_assoc]

theorem cell_of_Trod {W : World} {base : Nat} {spare : Nat → Bool} {held : Bool} {t e : TypeId} {v : Value} {d : DataW H} {p : List MemPlace} {r : Reach} {b0 : Nat}
    (ht : P.underlying t = some (.slice e)) (hv : Value.okWide P W r b0 t v) (h : DataW.Trod enc P W base spare held t v d p) : ∃ fuel, DataW.trod enc P W base spare held fuel t [v] = some (d, p) := by
  obtain ⟨A, n, c, rfl⟩ := okWide_slice ht hv
  exact h

theorem trod_ints4 {W : World} {base : Nat} {spare : Nat → Bool} {held : Bool} {e : TypeId} {f0 f1 f2 f3 : Field} {fuel : Nat} {cs : List Value} {y : DataW H × List MemPlace}
    (he : P.underlying e = some (.struct #[f0, f1, f2, f3])) (hone : oneCellFields P #[f0, f1, f2, f3] = true)
    (h0 : P.underlying f0.type = some (.int .i64)) (h1 : P.underlying f1.type = some (.int .i64)) (h2 : P.underlying f2.type = some (.int .i64)) (h3 : P.underlying f3.type = some (.int .i64))
    (hlen : cs.length = 4) (h : DataW.trod enc P W base spare held fuel e cs = some y) :
    ∃ i : Ins, i.wf ∧ cs = [.int .i64 i.op, .int .i64 i.a, .int .i64 i.b, .int .i64 i.c] := by
  match cs, hlen with
  | [c0, c1, c2, c3], _ =>
    obtain ⟨xs, n, _, hx, _, hl, hg⟩ := DataW.trod_struct he h
    obtain ⟨o0, k0⟩ := hone_of hone 0 f0 rfl
    obtain ⟨o1, k1⟩ := hone_of hone 1 f1 rfl
    obtain ⟨o2, k2⟩ := hone_of hone 2 f2 rfl
    obtain ⟨o3, k3⟩ := hone_of hone 3 f3 rfl
    match xs, hl with
    | [y0, y1, y2, y3], _ =>
      have g0 : DataW.trod enc P W base spare held n f0.type [c0] = some y0 := by simpa [Value.cells, o0, k0] using hg 0 f0 rfl
      have g1 : DataW.trod enc P W base spare held n f1.type [c1] = some y1 := by simpa [Value.cells, o1, k1] using hg 1 f1 rfl
      have g2 : DataW.trod enc P W base spare held n f2.type [c2] = some y2 := by simpa [Value.cells, o2, k2] using hg 2 f2 rfl
      have g3 : DataW.trod enc P W base spare held n f3.type [c3] = some y3 := by simpa [Value.cells, o3, k3] using hg 3 f3 rfl
      obtain ⟨n0, e0, _, w0⟩ := DataW.trod_int h0 g0
      obtain ⟨n1, e1, _, w1⟩ := DataW.trod_int h1 g1
      obtain ⟨n2, e2, _, w2⟩ := DataW.trod_int h2 g2
      obtain ⟨n3, e3, _, w3⟩ := DataW.trod_int h3 g3
      simp at e0 e1 e2 e3
      subst e0; subst e1; subst e2; subst e3
      exact ⟨⟨n0, n1, n2, n3⟩, ⟨wf64_of w0, wf64_of w1, wf64_of w2, wf64_of w3⟩, rfl⟩

theorem choose_list {α : Type} [Inhabited α] {n : Nat} {p : Nat → α → Prop} (h : ∀ i, i < n → ∃ x, p i x) : ∃ l : List α, l.length = n ∧ ∀ i (hi : i < l.length), p i l[i] := by
  obtain ⟨f, hf⟩ := choose_lt h
  exact ⟨(List.range n).map f, by simp, fun i hi => by simpa using hf i (by simpa using hi)⟩

theorem open_code' {W : World} {base : Nat} {spare : Nat → Bool} {held : Bool} {t e : TypeId} {f0 f1 f2 f3 : Field} {v : Value} {y : DataW H × List MemPlace} {fuel : Nat}
    (ht : P.underlying t = some (.slice e)) (he : P.underlying e = some (.struct #[f0, f1, f2, f3])) (hone : oneCellFields P #[f0, f1, f2, f3] = true) (hC : P.cellsOf e = 4)
    (h0 : P.underlying f0.type = some (.int .i64)) (h1 : P.underlying f1.type = some (.int .i64)) (h2 : P.underlying f2.type = some (.int .i64)) (h3 : P.underlying f3.type = some (.int .i64))
    (h : DataW.trod enc P W base spare held fuel t [v] = some y) :
    ∃ (A : Option Addr) (c : Nat) (l : List Ins), v = .slice A l.length c ∧ l.length ≤ c ∧ c ≤ maxLen ∧ (A = none → l.length = 0 ∧ c = 0) ∧ RdI W W.heap.size A l ∧ ∀ i ∈ l, i.wf := by
  obtain ⟨A, n, c, rfl, hn, hc, hnil, hx⟩ := open_rows ht hC (by omega) h
  by_cases hn0 : 0 < n
  · obtain ⟨b, o, rfl, hb, hi⟩ := hx hn0
    obtain ⟨l, hl, hp⟩ := choose_list (α := Ins) (n := n) (p := fun i x => x.wf ∧ W.cell? ⟨b, o + i * 4, none⟩ = some (.int .i64 x.op) ∧ W.cell? ⟨b, o + i * 4 + 1, none⟩ = some (.int .i64 x.a) ∧
        W.cell? ⟨b, o + i * 4 + 2, none⟩ = some (.int .i64 x.b) ∧ W.cell? ⟨b, o + i * 4 + 3, none⟩ = some (.int .i64 x.c)) (fun i hin => by
      obtain ⟨cs, fuel, y, hlen, hcell, htr⟩ := hi i hin
      obtain ⟨x, hw, rfl⟩ := trod_ints4 he hone h0 h1 h2 h3 hlen htr
      exact ⟨x, hw, hcell 0 (by omega), hcell 1 (by omega), hcell 2 (by omega), hcell 3 (by omega)⟩)
    subst hl
    refine ⟨_, c, l, rfl, hn, hc, hnil, fun _ => ⟨b, o, rfl, hb, fun k hk => (hp k hk).2⟩, fun i hi' => ?_⟩
    obtain ⟨k, hk, rfl⟩ := List.mem_iff_getElem.1 hi'
    exact (hp k hk).1
  · obtain rfl : n = 0 := by omega
    exact ⟨A, c, [], rfl, hn, hc, hnil, fun h => absurd h (by simp), fun i hi => by cases hi⟩
theorem open_code {W : World} {base : Nat} {spare : Nat → Bool} {held : Bool} {t e : TypeId} {f0 f1 f2 f3 : Field} {v : Value} {d : DataW H} {p : List MemPlace} {r : Reach} {b0 : Nat}
    (ht : P.underlying t = some (.slice e)) (he : P.underlying e = some (.struct #[f0, f1, f2, f3])) (hone : oneCellFields P #[f0, f1, f2, f3] = true) (hC : P.cellsOf e = 4)
    (h0 : P.underlying f0.type = some (.int .i64)) (h1 : P.underlying f1.type = some (.int .i64)) (h2 : P.underlying f2.type = some (.int .i64)) (h3 : P.underlying f3.type = some (.int .i64))
    (hv : Value.okWide P W r b0 t v) (h : DataW.Trod enc P W base spare held t v d p) :
    ∃ (A : Option Addr) (c : Nat) (l : List Ins), v = .slice A l.length c ∧ l.length ≤ c ∧ c ≤ maxLen ∧ (A = none → l.length = 0 ∧ c = 0) ∧ RdI W W.heap.size A l ∧ ∀ i ∈ l, i.wf := by
  obtain ⟨fuel, hf⟩ := cell_of_Trod ht hv h
  exact open_code' ht he hone hC h0 h1 h2 h3 hf
end
end Go.Proofs.YtdjamdbamkhblacDoor
