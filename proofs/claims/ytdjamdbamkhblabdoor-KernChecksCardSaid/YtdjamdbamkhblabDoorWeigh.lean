/- Arguments opened, with what a machine can reach of them: no condition. -/
import Derived.Test.YtdjamdbamkhblabDoorLaw
namespace Go.Proofs.YtdjamdbamkhblabDoor
open Go.RowKit Go.WideShapes Go.ChangeShapes Go.ChangeAt Go.Deep Go.Joins

section
variable {H : Type} {enc : TypeId × Value → H} {P : Program}
/-- Each weight of the datum is within reach. -/
def Light (P : Program) (t : TypeId) (d : DataW H) : Prop := ∀ x ∈ d.weights P t, x ≤ 140737488351232
theorem Light_all {e : TypeId} {D : Nat → DataW H} (l : List Nat) (h : ∀ x ∈ DataW.weightsAll P e (l.map D), x ≤ 140737488351232) : ∀ i ∈ l, Light P e (D i) := by
  induction l with
  | nil => intro i hi; cases hi
  | cons a r ih =>
    simp only [List.map_cons, DataW.weightsAll, List.mem_append] at h
    intro i hi
    rcases List.mem_cons.1 hi with rfl | hi
    · exact fun x hx => h x (.inl hx)
    · exact ih (fun x hx => h x (.inr hx)) i hi
theorem Light_each : ∀ (ts : List TypeId) (ds : List (DataW H)), (∀ x ∈ DataW.weightsEach P ts ds, x ≤ 140737488351232) → ∀ (i : Nat) t d, ts[i]? = some t → ds[i]? = some d → Light P t d
  | [], _, _, i, t, d, ht, _ => by simp at ht
  | _ :: _, [], _, i, t, d, _, hd => by simp at hd
  | t0 :: ts, d0 :: ds, h, i, t, d, ht, hd => by
    simp only [DataW.weightsEach, List.mem_append] at h
    cases i with
    | zero =>
      obtain rfl : t0 = t := by simpa using ht
      obtain rfl : d0 = d := by simpa using hd
      exact fun x hx => h x (.inl hx)
    | succ i => exact Light_each ts ds (fun x hx => h x (.inr hx)) i t d (by simpa using ht) (by simpa using hd)
theorem Light_arg {ts : List TypeId} {ds : List (DataW H)} (hsz : (DataW.weightsEach P ts ds).all (· ≤ reachBytes) = true) (i : Nat) {t : TypeId} {d : DataW H} (ht : ts[i]? = some t) (hd : ds[i]? = some d) : Light P t d :=
  Light_each ts ds (fun x hx => by have := List.all_eq_true.1 hsz x hx; have := of_decide_eq_true this; simpa [reachBytes] using this) i t d ht hd

/-- A slice that came in, opened at every index, with its bytes. -/
theorem open_rowsW {W : World} {base : Nat} {held : Bool} {t e : TypeId} {C : Nat} {v : Value} {y : DataW H × List MemPlace} {fuel : Nat}
    (ht : P.underlying t = some (.slice e)) (hC : P.cellsOf e = C) (hC0 : 0 < C) (hf : DataW.trod enc P W base (fun _ => true) held fuel t [v] = some y) (hL : Light P t y.1) :
    ∃ (A : Option Addr) (n c : Nat), v = .slice A n c ∧ n ≤ c ∧ c ≤ maxLen ∧ (A = none → n = 0 ∧ c = 0) ∧ c * P.bytesOf e ≤ 140737488351232 ∧
      (0 < n → ∃ b o, A = some ⟨b, o, none⟩ ∧ b < W.heap.size ∧ ∀ i, i < n → ∃ (cs : List Value) (fuel : Nat) (y : DataW H × List MemPlace), cs.length = C ∧ (∀ j, j < C → W.cell? ⟨b, o + i * C + j, none⟩ = cs[j]?) ∧
        DataW.trod enc P W base (fun _ => true) held fuel e cs = some y ∧ Light P e y.1) := by
  rcases open_slice ht hf with ⟨hcs, _⟩ | ⟨a, len, cap, m, n', D, Pl, hcs, _, hl, hm, hmm, hy, hi⟩
  · obtain rfl : v = .slice none 0 0 := by simpa using hcs
    exact ⟨none, 0, 0, rfl, Nat.le_refl _, Nat.zero_le _, fun _ => ⟨rfl, rfl⟩, by simp, fun h => absurd h (by omega)⟩
  · obtain rfl : v = .slice (some a) len cap := by simpa using hcs
    obtain ⟨n, rfl⟩ : ∃ n, n = len := ⟨_, rfl⟩
    obtain ⟨c, rfl⟩ : ∃ c, c = cap := ⟨_, rfl⟩
    have hmc : m = c := by simpa using hmm
    subst hmc
    subst hy
    have hL' := hL
    unfold Light at hL'
    simp only [DataW.weights, ht, List.mem_cons, List.mem_append, List.length_map, List.length_range] at hL'
    have hw : m * P.bytesOf e ≤ 140737488351232 := by
      have := hL' _ (.inl rfl)
      rwa [show n + (m - n) = m by omega] at this
    have hel := Light_all (List.range n) (fun x hx => hL' x (.inr (.inl hx)))
    refine ⟨some a, n, m, rfl, hl, hm, fun h => (nomatch h), hw, fun hn => ?_⟩
    have spot : ∀ (q : Addr) (u : Value), W.cell? q = some u → q = ⟨q.block, q.off, none⟩ := by
      rintro ⟨b, o, sp⟩ u hq
      cases sp with
      | none => rfl
      | some x => simp [World.cell?] at hq; split at hq <;> simp at hq
    have key : ∀ i, i < n → ∃ cs', cs'.length = C ∧ (∀ j, j < C → W.cell? (a.add (i * C + j)) = cs'[j]?) ∧ DataW.trod enc P W base (fun _ => true) held n' e cs' = some (D i, Pl i) := by
      intro i hin
      obtain ⟨cs', h1, h2⟩ := hi i (by omega)
      rw [hC] at h1
      obtain ⟨_, hlen, hat⟩ := World.cells?_some h1
      exact ⟨cs', hlen, fun j hj => by rw [← Go.Deep.add_add]; exact hat j hj, h2⟩
    obtain ⟨cs0, hl0, hc0, _⟩ := key 0 hn
    have h00 := hc0 0 hC0
    rw [List.getElem?_eq_getElem (by omega), show a.add (0 * C + 0) = a by simp [Addr.add]] at h00
    have ha := spot _ _ h00
    have hlt := World.block_lt_of_cell? W _ h00
    refine ⟨a.block, a.off, congrArg some ha, hlt, fun i hin => ?_⟩
    obtain ⟨cs', h1, h2, h3⟩ := key i hin
    refine ⟨cs', n', _, h1, fun j hj => ?_, h3, hel i (List.mem_range.2 hin)⟩
    rw [← h2 j hj]
    by_cases hz : i * C + j = 0
    · rw [Nat.add_assoc, hz, show a.add 0 = a by simp [Addr.add], Nat.add_zero, ← ha]
    · unfold Addr.add
      rw [if_neg hz, Nat.add_assoc]

/-- The bytes of a slice that came in. -/
theorem reach_slice {W : World} {base : Nat} {held : Bool} {t e : TypeId} {C : Nat} {A : Option Addr} {n c : Nat} {y : DataW H × List MemPlace} {fuel : Nat}
    (ht : P.underlying t = some (.slice e)) (hC : P.cellsOf e = C) (hC0 : 0 < C) (hf : DataW.trod enc P W base (fun _ => true) held fuel t [.slice A n c] = some y) (hL : Light P t y.1) : c * P.bytesOf e ≤ 140737488351232 := by
  obtain ⟨A', n', c', hv, _, _, _, h, _⟩ := open_rowsW ht hC hC0 hf hL
  cases hv
  exact h
theorem reach_Trod {W : World} {base : Nat} {held : Bool} {t e : TypeId} {C : Nat} {A : Option Addr} {n c : Nat} {d : DataW H} {p : List MemPlace}
    (ht : P.underlying t = some (.slice e)) (hC : P.cellsOf e = C) (hC0 : 0 < C) (hf : DataW.Trod enc P W base (fun _ => true) held t (.slice A n c) d p) (hL : Light P t d) : c * P.bytesOf e ≤ 140737488351232 := by
  obtain ⟨fuel, hf⟩ := hf
  exact reach_slice (y := (d, p)) ht hC hC0 hf hL
/-- A struct's fields, each one cell. -/
theorem open_fields {W : World} {base : Nat} {held : Bool} {t : TypeId} {fs : Array Field} {cs : List Value} {y : DataW H × List MemPlace} {fuel : Nat}
    (ht : P.underlying t = some (.struct fs)) (hone : oneCellFields P fs = true) (hlen : cs.length = fs.size) (h : DataW.trod enc P W base (fun _ => true) held fuel t cs = some y) (hL : Light P t y.1) :
    ∃ n, ∀ (i : Nat) f, fs[i]? = some f → ∃ u z, cs[i]? = some u ∧ DataW.trod enc P W base (fun _ => true) held n f.type [u] = some z ∧ Light P f.type z.1 := by
  obtain ⟨xs, n, _, hx, _, hl, hg⟩ := DataW.trod_struct ht h
  refine ⟨n, fun i f hf => ?_⟩
  have hi : i < fs.size := (Array.getElem?_eq_some_iff.1 hf).1
  obtain ⟨o0, k0⟩ := hone_of hone i f hf
  have hg' := hg i f hf
  rw [o0, k0, List.getElem?_eq_getElem (show i < xs.length by omega)] at hg'
  have hcs : (cs.drop i).take 1 = [cs[i]'(by omega)] := by
    rw [List.drop_eq_getElem_cons (by omega)]
    rfl
  rw [hcs] at hg'
  refine ⟨cs[i]'(by omega), xs[i]'(by omega), List.getElem?_eq_getElem (by omega), hg', ?_⟩
  subst hx
  unfold Light at hL
  simp only [DataW.weights, ht] at hL
  exact Light_each _ _ hL i _ _ (by simp [hf]) (by simp [List.getElem?_map, List.getElem?_eq_getElem (show i < xs.length by omega)])
theorem fields_of_agg {W : World} {base : Nat} {held : Bool} {t : TypeId} {fs : Array Field} {v : Value} {d : DataW H} {p : List MemPlace} {r : Reach} {b0 : Nat}
    (ht : P.underlying t = some (.struct fs)) (hone : oneCellFields P fs = true) (hC : P.cellsOf t = fs.size) (hv : Value.okWide P W r b0 t v) (h : DataW.Trod enc P W base (fun _ => true) held t v d p) (hL : Light P t d) :
    ∃ cs n, v = .agg cs ∧ cs.size = fs.size ∧ ∀ (i : Nat) f, fs[i]? = some f → ∃ u z, cs[i]? = some u ∧ DataW.trod enc P W base (fun _ => true) held n f.type [u] = some z ∧ Light P f.type z.1 := by
  obtain ⟨cs, rfl, hsz⟩ := okWide_struct ht hv
  obtain ⟨fuel, hf⟩ := h
  have hlen : (Value.agg cs).cells.toList.length = fs.size := by simp [Value.cells]; omega
  obtain ⟨n, hn⟩ := open_fields (y := (d, p)) ht hone hlen hf hL
  exact ⟨cs, n, rfl, by omega, fun i f hf => by simpa [Value.cells] using hn i f hf⟩
end
end Go.Proofs.YtdjamdbamkhblabDoor
