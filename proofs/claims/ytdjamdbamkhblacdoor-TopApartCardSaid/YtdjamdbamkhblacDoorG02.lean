/- What every law's proof of this seat shares: from a walk that leaves old memory as it was to the row's last step; arguments opened. No condition. A module, as plain data and as a value in memory. Files, open ends, processes, kernels and acts as plain data, and as what memory reads: no condition. -/
import Derived.Test.YtdjamdbamkhblacDoorG01
import Derived.Deep.DeepHandedRow
import Derived.Lib.LaidTab
namespace Go.Proofs.YtdjamdbamkhblacDoor
open Go.RowKit Go.WideShapes Go.ChangeShapes Go.ChangeAt Go.Deep

theorem own : ownKnob Tryd.prog.godebug = none := by kernel_rfl
theorem laidOut : laidOutB Tryd.prog = true := by kernel_rfl
theorem cells_Instr : Tryd.prog.cellsOf 65 = 4 := by kernel_rfl
theorem cells_int : Tryd.prog.cellsOf 3 = 1 := by kernel_rfl
theorem cells_Raw : Tryd.prog.cellsOf 23 = 4 := by kernel_rfl

section
variable {H : Type} {enc : TypeId × Value → H} {P : Program}
theorem trodAll_stays (hl : laidOutB P = true) {W W' : World} {sp' : Nat → Bool} : ∀ {ts : List TypeId} {vs : List Value} {ds : List (DataW H)} {ps : List MemPlace},
    ts.all (fun t => P.readableRec t && decide (t < P.types.size)) = true → DataW.TrodAll enc P W 0 (fun _ => true) true ts vs ds ps → (∀ p ∈ ps, W.sameAt W' p) → (∀ p ∈ ps, sp' p.block = true) → DataW.TrodAll enc P W' 0 sp' true ts vs ds ps
  | [], vs, ds, ps, _, h, _, _ => by
    obtain ⟨rfl, rfl, rfl⟩ := trodAll_nil h
    exact trodAll_mk0
  | t :: ts, vs, ds, ps, ha, h, hs, hsp => by
    obtain ⟨v, vs', d, ds', p, q, rfl, rfl, rfl, h1, h2⟩ := trodAll_cons h
    simp only [List.all_cons, Bool.and_eq_true, decide_eq_true_eq] at ha
    exact ⟨p, q, WideElems.Trod_stays hl ha.1.1 ha.1.2 h1 (fun x hx => hs x (List.mem_append_left _ hx)) (fun x hx => hsp x (List.mem_append_left _ hx)),
      trodAll_stays hl ha.2 h2 (fun x hx => hs x (List.mem_append_right _ hx)) (fun x hx => hsp x (List.mem_append_right _ hx)), rfl⟩

/-- A LAW'S LAST STEP: it answered true, and what was there is as it was. -/
theorem law_post {f : Func} {s : ChangeSpec} {apart fresh handsOn : Bool} {W W' : World} {args : Array Value} {ds gs : List (DataW H)} {before : List MemPlace} {bt : TypeId}
    (hW : DataW.Whole enc P f.params.toList s.vars apart W args.toList ds gs before) (hv : s.vars = []) (hr : f.resultTypes = #[bt]) (hbt : P.underlying bt = some .bool) (hl : laidOutB P = true)
    (hall : f.params.toList.all (fun t => P.readableRec t && decide (t < P.types.size)) = true) (hs : s.fn H ds = { results := [.lit (.bool true)], args := ds }) (hb : Below W.heap.size W W') :
    s.post enc P f apart fresh handsOn false W args (.bool true) W' := by
  have hW' := hW
  have hlt : ∀ p ∈ before, p.block < W.heap.size := fun p hp => hW.lt p hp
  obtain ⟨p, q, hA0, hV, rfl, hfz, hnd⟩ := hW
  rw [hv] at hV
  obtain ⟨rfl, rfl⟩ := trodVars_none hV
  have hA : DataW.TrodAll enc P W 0 (fun _ => true) true f.params.toList args.toList ds p := hA0
  rw [List.append_nil] at hW' hlt
  refine ⟨ds, [], p, [], p, [], hW', ?_, ?_, ?_, ?_, fun h => by cases h⟩
  · rw [List.append_nil, hs, hr]
    exact trodAll_mk1 (shut_bool hbt true)
  · rw [List.append_nil, hs]
    exact trodAll_stays hl hall hA (fun x hx => hb.same (hlt x hx)) (fun x hx => by simpa using hlt x hx)
  · rw [hv, List.append_nil, hs]
    exact rfl
  · exact World.keptBut_mono (fun x hx => ⟨hx, Or.inr (Or.inl hx)⟩) (hb.frame (· ∈ p))

/-- An array of strings that reads as listed holds those strings. -/
theorem cells_of_strs {w : World} {base : Nat} {sp : Nat → Bool} {held : Bool} {fuel : Nat} {t e : TypeId} {n : Nat} {cs : List Value} {zs : List (List UInt8)} {p : List MemPlace}
    (ht : P.underlying t = some (.array n e)) (he : P.underlying e = some .string) (hce : P.cellsOf e = 1) (hct : P.cellsOf t = n)
    (h : DataW.trod enc P w base sp held fuel t cs = some (.agg (zs.map fun z => .lit (.string z)), p)) : cs = zs.map fun z => Value.string ⟨z.toArray⟩ := by
  cases fuel with
  | zero => simp [DataW.trod] at h
  | succ fuel =>
    simp only [DataW.trod, ht, hce, hct, Nat.mul_one] at h
    split at h
    · rename_i hl
      obtain ⟨xs, hm, hx⟩ := Option.map_eq_some_iff.1 h
      have hxs : xs.map (·.1) = zs.map fun z => (DataW.lit (.string z) : DataW H) := by
        have := congrArg Prod.fst hx
        simpa using this
      have hxl : xs.length = n := by simpa using Lib.mapM_length hm
      have hzl : zs.length = n := by
        have := congrArg List.length hxs
        simp at this
        omega
      apply List.ext_getElem?
      intro i
      by_cases hi : i < n
      · obtain ⟨b, hb, hf⟩ := Lib.mapM_at hm i i (by simp [hi])
        obtain ⟨z, hc, rfl, _⟩ := DataW.trod_string he hf
        have h1 : cs[i]? = some (.string z) := by
          have := congrArg (·[0]?) hc
          simpa [List.getElem?_take, List.getElem?_drop] using this
        have h2 : (xs.map (·.1))[i]? = some (DataW.lit (.string z.data.toList) : DataW H) := by simp [hb]
        rw [hxs] at h2
        simp only [List.getElem?_map, Option.map_eq_some_iff, DataW.lit.injEq, Lit.string.injEq] at h2
        obtain ⟨z', hz', hz⟩ := h2
        subst hz
        simp [h1, hz']
      · rw [List.getElem?_eq_none (by omega), List.getElem?_eq_none (by simp; omega)]
    · cases h

theorem strs_of_head {W : World} {name : String} {zs : List (List UInt8)} {rest : List (String × DataW Unit)} {g : Nat} {t e : TypeId} {n : Nat}
    (hg : P.globalNamed name = some g) (hty : (P.globals[g]?).map (·.type) = some t) (ht : P.underlying t = some (.array n e)) (he : P.underlying e = some .string) (hce : P.cellsOf e = 1) (hct : P.cellsOf t = n)
    (h : laidMet P ((name, .agg (zs.map fun z => .lit (.string z))) :: rest) W) (i : Nat) (z : List UInt8) (hi : zs[i]? = some z) : W.cell? ⟨g, i, none⟩ = some (.string ⟨z.toArray⟩) := by
  obtain ⟨ps, ⟨g', t', cs, fuel, p, q, hg', ht', hvar, hd, _, _⟩, _⟩ := h
  obtain rfl := Option.some.inj (hg.symm.trans hg')
  obtain rfl := Option.some.inj (hty.symm.trans ht')
  have hv : W.var? P name = some (zs.map fun z => Value.string ⟨z.toArray⟩).toArray := by rw [hvar, ← cells_of_strs ht he hce hct hd]
  have := World.var?_cell hg hv i
  simpa [hi] using this

/-- A slice that came in, opened at every index: its cells, and what they read as. -/
theorem open_rows {W : World} {base : Nat} {spare : Nat → Bool} {held : Bool} {t e : TypeId} {C : Nat} {v : Value} {y : DataW H × List MemPlace} {fuel : Nat}
    (ht : P.underlying t = some (.slice e)) (hC : P.cellsOf e = C) (hC0 : 0 < C) (hf : DataW.trod enc P W base spare held fuel t [v] = some y) :
    ∃ (A : Option Addr) (n c : Nat), v = .slice A n c ∧ n ≤ c ∧ c ≤ maxLen ∧ (A = none → n = 0 ∧ c = 0) ∧
      (0 < n → ∃ b o, A = some ⟨b, o, none⟩ ∧ b < W.heap.size ∧ ∀ i, i < n → ∃ (cs : List Value) (fuel : Nat) (y : DataW H × List MemPlace), cs.length = C ∧ (∀ j, j < C → W.cell? ⟨b, o + i * C + j, none⟩ = cs[j]?) ∧
        DataW.trod enc P W base spare held fuel e cs = some y) := by
  rcases open_slice ht hf with ⟨hcs, _⟩ | ⟨a, len, cap, m, n', D, Pl, hcs, _, hl, hm, hmm, _, hi⟩
  · obtain rfl : v = .slice none 0 0 := by simpa using hcs
    exact ⟨none, 0, 0, rfl, Nat.le_refl _, Nat.zero_le _, fun _ => ⟨rfl, rfl⟩, fun h => absurd h (by omega)⟩
  · obtain rfl : v = .slice (some a) len cap := by simpa using hcs
    obtain ⟨n, rfl⟩ : ∃ n, n = len := ⟨_, rfl⟩
    obtain ⟨c, rfl⟩ : ∃ c, c = cap := ⟨_, rfl⟩
    refine ⟨some a, n, c, rfl, hl, hm, fun h => (nomatch h), fun hn => ?_⟩
    have hnm : n ≤ m := by rw [hmm]; split <;> omega
    have spot : ∀ (q : Addr) (u : Value), W.cell? q = some u → q = ⟨q.block, q.off, none⟩ := by
      rintro ⟨b, o, sp⟩ u hq
      cases sp with
      | none => rfl
      | some x => simp [World.cell?] at hq; split at hq <;> simp at hq
    have key : ∀ i, i < n → ∃ cs', cs'.length = C ∧ (∀ j, j < C → W.cell? (a.add (i * C + j)) = cs'[j]?) ∧ DataW.trod enc P W base spare held n' e cs' = some (D i, Pl i) := by
      intro i hin
      obtain ⟨cs', h1, h2⟩ := hi i (by omega)
      rw [hC] at h1
      obtain ⟨_, hlen, hat⟩ := World.cells?_some h1
      exact ⟨cs', hlen, fun j hj => by rw [← Go.Deep.add_add]; exact hat j hj, h2⟩
    obtain ⟨cs0, hl0, hc0, _⟩ := key 0 hn
    have h00 := hc0 0 hC0
    rw [List.getElem?_eq_getElem (by omega), show a.add (0 * C + 0) = a by simp [Addr.add]] at h00
    have ha := spot _ _ h00
    have hlt := World.block_lt_of_cell? W _ h00
    refine ⟨a.block, a.off, congrArg some ha, hlt, fun i hin => ?_⟩
    obtain ⟨cs', h1, h2, h3⟩ := key i hin
    refine ⟨cs', n', _, h1, fun j hj => ?_, h3⟩
    rw [← h2 j hj]
    by_cases hz : i * C + j = 0
    · rw [Nat.add_assoc, hz, show a.add 0 = a by simp [Addr.add], Nat.add_zero, ← ha]
    · unfold Addr.add
      rw [if_neg hz, Nat.add_assoc]

theorem cell_of_Trod {W : World} {base : Nat} {spare : Nat → Bool} {held : Bool} {t e : TypeId} {v : Value} {d : DataW H} {p : List MemPlace} {r : Reach} {b0 : Nat}
    (ht : P.underlying t = some (.slice e)) (hv : Value.okWide P W r b0 t v) (h : DataW.Trod enc P W base spare held t v d p) : ∃ fuel, DataW.trod enc P W base spare held fuel t [v] = some (d, p) := by
  obtain ⟨A, n, c, rfl⟩ := okWide_slice ht hv
  exact h

def wf64 (n : Int) : Prop := -9223372036854775808 ≤ n ∧ n ≤ 9223372036854775807
theorem wf64_of {n : Int} (h : (Lit.int .i64 n).wf = true) : wf64 n := by
  simpa [Lit.wf, IntKind.min, IntKind.max, IntKind.signed, IntKind.bits, wf64] using h
def Ins.wf (i : Ins) : Prop := wf64 i.op ∧ wf64 i.a ∧ wf64 i.b ∧ wf64 i.c

theorem trod_ints4 {W : World} {base : Nat} {spare : Nat → Bool} {held : Bool} {e : TypeId} {f0 f1 f2 f3 : Field} {fuel : Nat} {cs : List Value} {y : DataW H × List MemPlace}
    (he : P.underlying e = some (.struct #[f0, f1, f2, f3])) (hone : oneCellFields P #[f0, f1, f2, f3] = true)
    (h0 : P.underlying f0.type = some (.int .i64)) (h1 : P.underlying f1.type = some (.int .i64)) (h2 : P.underlying f2.type = some (.int .i64)) (h3 : P.underlying f3.type = some (.int .i64))
    (hlen : cs.length = 4) (h : DataW.trod enc P W base spare held fuel e cs = some y) :
    ∃ i : Ins, i.wf ∧ cs = [.int .i64 i.op, .int .i64 i.a, .int .i64 i.b, .int .i64 i.c] := by
  match cs, hlen with
  | [c0, c1, c2, c3], _ =>
    obtain ⟨xs, n, _, hx, _, hl, hg⟩ := DataW.trod_struct he h
    obtain ⟨o0, k0⟩ := hone_of hone 0 f0 rfl
    obtain ⟨o1, k1⟩ := hone_of hone 1 f1 rfl
    obtain ⟨o2, k2⟩ := hone_of hone 2 f2 rfl
    obtain ⟨o3, k3⟩ := hone_of hone 3 f3 rfl
    match xs, hl with
    | [y0, y1, y2, y3], _ =>
      have g0 : DataW.trod enc P W base spare held n f0.type [c0] = some y0 := by simpa [Value.cells, o0, k0] using hg 0 f0 rfl
      have g1 : DataW.trod enc P W base spare held n f1.type [c1] = some y1 := by simpa [Value.cells, o1, k1] using hg 1 f1 rfl
      have g2 : DataW.trod enc P W base spare held n f2.type [c2] = some y2 := by simpa [Value.cells, o2, k2] using hg 2 f2 rfl
      have g3 : DataW.trod enc P W base spare held n f3.type [c3] = some y3 := by simpa [Value.cells, o3, k3] using hg 3 f3 rfl
      obtain ⟨n0, e0, _, w0⟩ := DataW.trod_int h0 g0
      obtain ⟨n1, e1, _, w1⟩ := DataW.trod_int h1 g1
      obtain ⟨n2, e2, _, w2⟩ := DataW.trod_int h2 g2
      obtain ⟨n3, e3, _, w3⟩ := DataW.trod_int h3 g3
      simp at e0 e1 e2 e3
      subst e0; subst e1; subst e2; subst e3
      exact ⟨⟨n0, n1, n2, n3⟩, ⟨wf64_of w0, wf64_of w1, wf64_of w2, wf64_of w3⟩, rfl⟩

theorem choose_list {α : Type} [Inhabited α] {n : Nat} {p : Nat → α → Prop} (h : ∀ i, i < n → ∃ x, p i x) : ∃ l : List α, l.length = n ∧ ∀ i (hi : i < l.length), p i l[i] := by
  obtain ⟨f, hf⟩ := choose_lt h
  exact ⟨(List.range n).map f, by simp, fun i hi => by simpa using hf i (by simpa using hi)⟩

/-- A slice of structs of four integers that came in. -/
theorem open_code' {W : World} {base : Nat} {spare : Nat → Bool} {held : Bool} {t e : TypeId} {f0 f1 f2 f3 : Field} {v : Value} {y : DataW H × List MemPlace} {fuel : Nat}
    (ht : P.underlying t = some (.slice e)) (he : P.underlying e = some (.struct #[f0, f1, f2, f3])) (hone : oneCellFields P #[f0, f1, f2, f3] = true) (hC : P.cellsOf e = 4)
    (h0 : P.underlying f0.type = some (.int .i64)) (h1 : P.underlying f1.type = some (.int .i64)) (h2 : P.underlying f2.type = some (.int .i64)) (h3 : P.underlying f3.type = some (.int .i64))
    (h : DataW.trod enc P W base spare held fuel t [v] = some y) :
    ∃ (A : Option Addr) (c : Nat) (l : List Ins), v = .slice A l.length c ∧ l.length ≤ c ∧ c ≤ maxLen ∧ (A = none → l.length = 0 ∧ c = 0) ∧ RdI W W.heap.size A l ∧ ∀ i ∈ l, i.wf := by
  obtain ⟨A, n, c, rfl, hn, hc, hnil, hx⟩ := open_rows ht hC (by omega) h
  by_cases hn0 : 0 < n
  · obtain ⟨b, o, rfl, hb, hi⟩ := hx hn0
    obtain ⟨l, hl, hp⟩ := choose_list (α := Ins) (n := n) (p := fun i x => x.wf ∧ W.cell? ⟨b, o + i * 4, none⟩ = some (.int .i64 x.op) ∧ W.cell? ⟨b, o + i * 4 + 1, none⟩ = some (.int .i64 x.a) ∧
        W.cell? ⟨b, o + i * 4 + 2, none⟩ = some (.int .i64 x.b) ∧ W.cell? ⟨b, o + i * 4 + 3, none⟩ = some (.int .i64 x.c)) (fun i hin => by
      obtain ⟨cs, fuel, y, hlen, hcell, htr⟩ := hi i hin
      obtain ⟨x, hw, rfl⟩ := trod_ints4 he hone h0 h1 h2 h3 hlen htr
      exact ⟨x, hw, hcell 0 (by omega), hcell 1 (by omega), hcell 2 (by omega), hcell 3 (by omega)⟩)
    subst hl
    refine ⟨_, c, l, rfl, hn, hc, hnil, fun _ => ⟨b, o, rfl, hb, fun k hk => (hp k hk).2⟩, fun i hi' => ?_⟩
    obtain ⟨k, hk, rfl⟩ := List.mem_iff_getElem.1 hi'
    exact (hp k hk).1
  · obtain rfl : n = 0 := by omega
    exact ⟨A, c, [], rfl, hn, hc, hnil, fun h => absurd h (by simp), fun i hi => by cases hi⟩
theorem open_code {W : World} {base : Nat} {spare : Nat → Bool} {held : Bool} {t e : TypeId} {f0 f1 f2 f3 : Field} {v : Value} {d : DataW H} {p : List MemPlace} {r : Reach} {b0 : Nat}
    (ht : P.underlying t = some (.slice e)) (he : P.underlying e = some (.struct #[f0, f1, f2, f3])) (hone : oneCellFields P #[f0, f1, f2, f3] = true) (hC : P.cellsOf e = 4)
    (h0 : P.underlying f0.type = some (.int .i64)) (h1 : P.underlying f1.type = some (.int .i64)) (h2 : P.underlying f2.type = some (.int .i64)) (h3 : P.underlying f3.type = some (.int .i64))
    (hv : Value.okWide P W r b0 t v) (h : DataW.Trod enc P W base spare held t v d p) :
    ∃ (A : Option Addr) (c : Nat) (l : List Ins), v = .slice A l.length c ∧ l.length ≤ c ∧ c ≤ maxLen ∧ (A = none → l.length = 0 ∧ c = 0) ∧ RdI W W.heap.size A l ∧ ∀ i ∈ l, i.wf := by
  obtain ⟨fuel, hf⟩ := cell_of_Trod ht hv h
  exact open_code' ht he hone hC h0 h1 h2 h3 hf
/-- A slice of integers that came in. -/
theorem open_intlist' {W : World} {base : Nat} {spare : Nat → Bool} {held : Bool} {t e : TypeId} {v : Value} {y : DataW H × List MemPlace} {fuel : Nat}
    (ht : P.underlying t = some (.slice e)) (he : P.underlying e = some (.int .i64)) (hC : P.cellsOf e = 1) (h : DataW.trod enc P W base spare held fuel t [v] = some y) :
    ∃ (A : Option Addr) (c : Nat) (l : List Int), v = .slice A l.length c ∧ l.length ≤ c ∧ c ≤ maxLen ∧ (A = none → l.length = 0 ∧ c = 0) ∧ RdN W W.heap.size A l ∧ ∀ i ∈ l, wf64 i := by
  obtain ⟨A, n, c, rfl, hn, hc, hnil, hx⟩ := open_rows ht hC (by omega) h
  by_cases hn0 : 0 < n
  · obtain ⟨b, o, rfl, hb, hi⟩ := hx hn0
    obtain ⟨l, hl, hp⟩ := choose_list (α := Int) (n := n) (p := fun i x => wf64 x ∧ W.cell? ⟨b, o + i, none⟩ = some (.int .i64 x)) (fun i hin => by
      obtain ⟨cs, fuel, y, hlen, hcell, htr⟩ := hi i hin
      match cs, hlen with
      | [c0], _ =>
        obtain ⟨x, e0, _, hw⟩ := DataW.trod_int he htr
        simp at e0
        subst e0
        exact ⟨x, wf64_of hw, by simpa using hcell 0 (by omega)⟩)
    subst hl
    refine ⟨_, c, l, rfl, hn, hc, hnil, fun _ => ⟨b, o, rfl, hb, fun k hk => (hp k hk).2⟩, fun i hi' => ?_⟩
    obtain ⟨k, hk, rfl⟩ := List.mem_iff_getElem.1 hi'
    exact (hp k hk).1
  · obtain rfl : n = 0 := by omega
    exact ⟨A, c, [], rfl, hn, hc, hnil, fun h => absurd h (by simp), fun i hi => by cases hi⟩
theorem open_intlist {W : World} {base : Nat} {spare : Nat → Bool} {held : Bool} {t e : TypeId} {v : Value} {d : DataW H} {p : List MemPlace} {r : Reach} {b0 : Nat}
    (ht : P.underlying t = some (.slice e)) (he : P.underlying e = some (.int .i64)) (hC : P.cellsOf e = 1) (hv : Value.okWide P W r b0 t v) (h : DataW.Trod enc P W base spare held t v d p) :
    ∃ (A : Option Addr) (c : Nat) (l : List Int), v = .slice A l.length c ∧ l.length ≤ c ∧ c ≤ maxLen ∧ (A = none → l.length = 0 ∧ c = 0) ∧ RdN W W.heap.size A l ∧ ∀ i ∈ l, wf64 i := by
  obtain ⟨fuel, hf⟩ := cell_of_Trod ht hv h
  exact open_intlist' ht he hC hf
end
end Go.Proofs.YtdjamdbamkhblacDoor
namespace Go.Proofs.YtdjamdbamkhblacDoor
open Go.RowKit

/-- A module. -/
structure Mod where
  name : ByteArray
  code : List Ins
  data : List Int
/-- The value v reads as the module m. -/
def ModVal (W : World) (v : Value) (m : Mod) : Prop :=
  ∃ (A : Option Addr) (c : Nat) (A' : Option Addr) (c' : Nat), v = .agg #[.string m.name, .slice A m.code.length c, .slice A' m.data.length c'] ∧ m.name.size ≤ maxLen ∧ m.code.length ≤ c ∧ c ≤ maxLen ∧ m.data.length ≤ c' ∧ c' ≤ maxLen ∧
    RdI W W.heap.size A m.code ∧ RdN W W.heap.size A' m.data ∧ (∀ i ∈ m.code, i.wf) ∧ ∀ n ∈ m.data, wf64 n
end Go.Proofs.YtdjamdbamkhblacDoor
namespace Go.Proofs.YtdjamdbamkhblacDoor
open Go.RowKit

/-- A file. -/
structure Nod where
  name : ByteArray
  kind : Int
  data : ByteArray
  unit : Int
instance : Inhabited Nod := ⟨⟨⟨#[]⟩, 0, ⟨#[]⟩, 0⟩⟩
/-- An open end. -/
structure Opn where
  kind : Int
  node : Int
  pos : Int
instance : Inhabited Opn := ⟨⟨0, 0, 0⟩⟩
/-- A process. -/
structure Prc where
  live : Bool
  ends : List Opn
instance : Inhabited Prc := ⟨⟨false, []⟩⟩
instance : Inhabited Mod := ⟨⟨⟨#[]⟩, [], []⟩⟩
/-- A kernel. -/
structure Krn where
  mods : List Mod
  mem : List Int
  nodes : List Nod
  pipes : List ByteArray
  procs : List Prc
/-- An act. -/
structure Akt where
  kind : Int
  p : Int
  n : Int
  m : Int
  name : ByteArray
  data : ByteArray
instance : Inhabited Akt := ⟨⟨0, 0, 0, 0, ⟨#[]⟩, ⟨#[]⟩⟩⟩

def RdS (w : World) (B : Nat) (A : Option Addr) (l : List ByteArray) : Prop :=
  0 < l.length → ∃ b o, A = some ⟨b, o, none⟩ ∧ b < B ∧ ∀ k (h : k < l.length), w.cell? ⟨b, o + k, none⟩ = some (.string l[k])
def RdD (w : World) (B : Nat) (A : Option Addr) (l : List Nod) : Prop :=
  0 < l.length → ∃ b o, A = some ⟨b, o, none⟩ ∧ b < B ∧ ∀ k (h : k < l.length),
    w.cell? ⟨b, o + k * 4, none⟩ = some (.string l[k].name) ∧ w.cell? ⟨b, o + k * 4 + 1, none⟩ = some (.int .i64 l[k].kind) ∧
    w.cell? ⟨b, o + k * 4 + 2, none⟩ = some (.string l[k].data) ∧ w.cell? ⟨b, o + k * 4 + 3, none⟩ = some (.int .i64 l[k].unit)
def RdE (w : World) (B : Nat) (A : Option Addr) (l : List Opn) : Prop :=
  0 < l.length → ∃ b o, A = some ⟨b, o, none⟩ ∧ b < B ∧ ∀ k (h : k < l.length),
    w.cell? ⟨b, o + k * 3, none⟩ = some (.int .i64 l[k].kind) ∧ w.cell? ⟨b, o + k * 3 + 1, none⟩ = some (.int .i64 l[k].node) ∧
    w.cell? ⟨b, o + k * 3 + 2, none⟩ = some (.int .i64 l[k].pos)
def RdA (w : World) (B : Nat) (A : Option Addr) (l : List Akt) : Prop :=
  0 < l.length → ∃ b o, A = some ⟨b, o, none⟩ ∧ b < B ∧ ∀ k (h : k < l.length),
    w.cell? ⟨b, o + k * 6, none⟩ = some (.int .i64 l[k].kind) ∧ w.cell? ⟨b, o + k * 6 + 1, none⟩ = some (.int .i64 l[k].p) ∧
    w.cell? ⟨b, o + k * 6 + 2, none⟩ = some (.int .i64 l[k].n) ∧ w.cell? ⟨b, o + k * 6 + 3, none⟩ = some (.int .i64 l[k].m) ∧
    w.cell? ⟨b, o + k * 6 + 4, none⟩ = some (.string l[k].name) ∧ w.cell? ⟨b, o + k * 6 + 5, none⟩ = some (.string l[k].data)

/-- What a module's two slices, and its name, are good for. -/
structure ModAt (w : World) (B : Nat) (A : Option Addr) (c : Nat) (A' : Option Addr) (c' : Nat) (m : Mod) : Prop where
  code : RdI w B A m.code
  data : RdN w B A' m.data
  nm : m.name.size ≤ 140737488351232
  cl : m.code.length * 32 ≤ 140737488351232
  dl : m.data.length * 8 ≤ 140737488351232
  nil : A = none → m.code.length = 0 ∧ c = 0
  nil' : A' = none → m.data.length = 0 ∧ c' = 0
def RdM (w : World) (B : Nat) (A : Option Addr) (l : List Mod) : Prop :=
  0 < l.length → ∃ b o, A = some ⟨b, o, none⟩ ∧ b < B ∧ ∀ k (h : k < l.length), ∃ A1 c1 A2 c2,
    w.cell? ⟨b, o + k * 3, none⟩ = some (.string l[k].name) ∧ w.cell? ⟨b, o + k * 3 + 1, none⟩ = some (.slice A1 l[k].code.length c1) ∧
    w.cell? ⟨b, o + k * 3 + 2, none⟩ = some (.slice A2 l[k].data.length c2) ∧ ModAt w B A1 c1 A2 c2 l[k]
structure PrcAt (w : World) (B : Nat) (A : Option Addr) (c : Nat) (p : Prc) : Prop where
  ends : RdE w B A p.ends
  el : p.ends.length * 24 ≤ 140737488351232
  nil : A = none → p.ends.length = 0 ∧ c = 0
def RdP (w : World) (B : Nat) (A : Option Addr) (l : List Prc) : Prop :=
  0 < l.length → ∃ b o, A = some ⟨b, o, none⟩ ∧ b < B ∧ ∀ k (h : k < l.length), ∃ A1 c1,
    w.cell? ⟨b, o + k * 2, none⟩ = some (.bool l[k].live) ∧ w.cell? ⟨b, o + k * 2 + 1, none⟩ = some (.slice A1 l[k].ends.length c1) ∧ PrcAt w B A1 c1 l[k]

section
variable {w w' : World} {B B' : Nat} {A A' : Option Addr} {c c' : Nat}
theorem RdS.keep {l : List ByteArray} (h : RdS w B A l) (hk : ∀ p : Addr, p.block < B → w'.cell? p = w.cell? p) : RdS w' B A l := fun hl => by
  obtain ⟨b, o, e, hb, hc⟩ := h hl
  exact ⟨b, o, e, hb, fun k hk' => (hk _ hb).trans (hc k hk')⟩
theorem RdS.more {l : List ByteArray} (h : RdS w B A l) (hB : B ≤ B') : RdS w B' A l := fun hl => by
  obtain ⟨b, o, e, hb, hc⟩ := h hl
  exact ⟨b, o, e, by omega, hc⟩
theorem RdD.keep {l : List Nod} (h : RdD w B A l) (hk : ∀ p : Addr, p.block < B → w'.cell? p = w.cell? p) : RdD w' B A l := fun hl => by
  obtain ⟨b, o, e, hb, hc⟩ := h hl
  refine ⟨b, o, e, hb, fun k hk' => ?_⟩
  obtain ⟨h0, h1, h2, h3⟩ := hc k hk'
  exact ⟨(hk _ hb).trans h0, (hk _ hb).trans h1, (hk _ hb).trans h2, (hk _ hb).trans h3⟩
theorem RdD.more {l : List Nod} (h : RdD w B A l) (hB : B ≤ B') : RdD w B' A l := fun hl => by
  obtain ⟨b, o, e, hb, hc⟩ := h hl
  exact ⟨b, o, e, by omega, hc⟩
theorem RdE.keep {l : List Opn} (h : RdE w B A l) (hk : ∀ p : Addr, p.block < B → w'.cell? p = w.cell? p) : RdE w' B A l := fun hl => by
  obtain ⟨b, o, e, hb, hc⟩ := h hl
  refine ⟨b, o, e, hb, fun k hk' => ?_⟩
  obtain ⟨h0, h1, h2⟩ := hc k hk'
  exact ⟨(hk _ hb).trans h0, (hk _ hb).trans h1, (hk _ hb).trans h2⟩
theorem RdE.more {l : List Opn} (h : RdE w B A l) (hB : B ≤ B') : RdE w B' A l := fun hl => by
  obtain ⟨b, o, e, hb, hc⟩ := h hl
  exact ⟨b, o, e, by omega, hc⟩
theorem RdA.keep {l : List Akt} (h : RdA w B A l) (hk : ∀ p : Addr, p.block < B → w'.cell? p = w.cell? p) : RdA w' B A l := fun hl => by
  obtain ⟨b, o, e, hb, hc⟩ := h hl
  refine ⟨b, o, e, hb, fun k hk' => ?_⟩
  obtain ⟨h0, h1, h2, h3, h4, h5⟩ := hc k hk'
  exact ⟨(hk _ hb).trans h0, (hk _ hb).trans h1, (hk _ hb).trans h2, (hk _ hb).trans h3, (hk _ hb).trans h4, (hk _ hb).trans h5⟩
theorem RdA.more {l : List Akt} (h : RdA w B A l) (hB : B ≤ B') : RdA w B' A l := fun hl => by
  obtain ⟨b, o, e, hb, hc⟩ := h hl
  exact ⟨b, o, e, by omega, hc⟩
theorem ModAt.keep {m : Mod} (h : ModAt w B A c A' c' m) (hk : ∀ p : Addr, p.block < B → w'.cell? p = w.cell? p) : ModAt w' B A c A' c' m :=
  { h with code := h.code.keep hk, data := h.data.keep hk }
theorem ModAt.more {m : Mod} (h : ModAt w B A c A' c' m) (hB : B ≤ B') : ModAt w B' A c A' c' m :=
  { h with code := h.code.more hB, data := h.data.more hB }
theorem PrcAt.keep {p : Prc} (h : PrcAt w B A c p) (hk : ∀ p : Addr, p.block < B → w'.cell? p = w.cell? p) : PrcAt w' B A c p := { h with ends := h.ends.keep hk }
theorem PrcAt.more {p : Prc} (h : PrcAt w B A c p) (hB : B ≤ B') : PrcAt w B' A c p := { h with ends := h.ends.more hB }
theorem RdM.keep {l : List Mod} (h : RdM w B A l) (hk : ∀ p : Addr, p.block < B → w'.cell? p = w.cell? p) : RdM w' B A l := fun hl => by
  obtain ⟨b, o, e, hb, hc⟩ := h hl
  refine ⟨b, o, e, hb, fun k hk' => ?_⟩
  obtain ⟨A1, c1, A2, c2, h0, h1, h2, h3⟩ := hc k hk'
  exact ⟨A1, c1, A2, c2, (hk _ hb).trans h0, (hk _ hb).trans h1, (hk _ hb).trans h2, h3.keep hk⟩
theorem RdM.more {l : List Mod} (h : RdM w B A l) (hB : B ≤ B') : RdM w B' A l := fun hl => by
  obtain ⟨b, o, e, hb, hc⟩ := h hl
  refine ⟨b, o, e, by omega, fun k hk' => ?_⟩
  obtain ⟨A1, c1, A2, c2, h0, h1, h2, h3⟩ := hc k hk'
  exact ⟨A1, c1, A2, c2, h0, h1, h2, h3.more hB⟩
theorem RdP.keep {l : List Prc} (h : RdP w B A l) (hk : ∀ p : Addr, p.block < B → w'.cell? p = w.cell? p) : RdP w' B A l := fun hl => by
  obtain ⟨b, o, e, hb, hc⟩ := h hl
  refine ⟨b, o, e, hb, fun k hk' => ?_⟩
  obtain ⟨A1, c1, h0, h1, h2⟩ := hc k hk'
  exact ⟨A1, c1, (hk _ hb).trans h0, (hk _ hb).trans h1, h2.keep hk⟩
theorem RdP.more {l : List Prc} (h : RdP w B A l) (hB : B ≤ B') : RdP w B' A l := fun hl => by
  obtain ⟨b, o, e, hb, hc⟩ := h hl
  refine ⟨b, o, e, by omega, fun k hk' => ?_⟩
  obtain ⟨A1, c1, h0, h1, h2⟩ := hc k hk'
  exact ⟨A1, c1, h0, h1, h2.more hB⟩
theorem RdS.below {l : List ByteArray} (h : RdS w B A l) (hb : Below B w w') : RdS w' B A l := h.keep fun _ hp => hb.cell hp
theorem RdD.below {l : List Nod} (h : RdD w B A l) (hb : Below B w w') : RdD w' B A l := h.keep fun _ hp => hb.cell hp
theorem RdE.below {l : List Opn} (h : RdE w B A l) (hb : Below B w w') : RdE w' B A l := h.keep fun _ hp => hb.cell hp
theorem RdA.below {l : List Akt} (h : RdA w B A l) (hb : Below B w w') : RdA w' B A l := h.keep fun _ hp => hb.cell hp
theorem RdM.below {l : List Mod} (h : RdM w B A l) (hb : Below B w w') : RdM w' B A l := h.keep fun _ hp => hb.cell hp
theorem RdP.below {l : List Prc} (h : RdP w B A l) (hb : Below B w w') : RdP w' B A l := h.keep fun _ hp => hb.cell hp
end

/-- The five slices of a kernel. -/
structure KA where
  a0 : Option Addr
  c0 : Nat
  a1 : Option Addr
  c1 : Nat
  a2 : Option Addr
  c2 : Nat
  a3 : Option Addr
  c3 : Nat
  a4 : Option Addr
  c4 : Nat
/-- A kernel's value. -/
def KA.cells (a : KA) (k : Krn) : Array Value := #[.slice a.a0 k.mods.length a.c0, .slice a.a1 k.mem.length a.c1, .slice a.a2 k.nodes.length a.c2, .slice a.a3 k.pipes.length a.c3, .slice a.a4 k.procs.length a.c4]
/-- The five slices read as the kernel k, below block B. -/
structure KrnAt (w : World) (B : Nat) (a : KA) (k : Krn) : Prop where
  mods : RdM w B a.a0 k.mods
  mem : RdN w B a.a1 k.mem
  nodes : RdD w B a.a2 k.nodes
  pipes : RdS w B a.a3 k.pipes
  procs : RdP w B a.a4 k.procs
  l0 : k.mods.length * 64 ≤ 140737488351232
  l1 : k.mem.length * 8 ≤ 140737488351232
  l2 : k.nodes.length * 48 ≤ 140737488351232
  l3 : k.pipes.length * 16 ≤ 140737488351232
  l4 : k.procs.length * 32 ≤ 140737488351232
  n0 : a.a0 = none → k.mods.length = 0 ∧ a.c0 = 0
  n1 : a.a1 = none → k.mem.length = 0 ∧ a.c1 = 0
  n2 : a.a2 = none → k.nodes.length = 0 ∧ a.c2 = 0
  n3 : a.a3 = none → k.pipes.length = 0 ∧ a.c3 = 0
  n4 : a.a4 = none → k.procs.length = 0 ∧ a.c4 = 0
/-- Lengths within the capacities. -/
structure KA.caps (a : KA) (k : Krn) : Prop where
  m : k.mods.length ≤ a.c0
  d : k.nodes.length ≤ a.c2
theorem KrnAt.keep {w w' : World} {B : Nat} {a : KA} {k : Krn} (h : KrnAt w B a k) (hk : ∀ p : Addr, p.block < B → w'.cell? p = w.cell? p) : KrnAt w' B a k :=
  { h with mods := h.mods.keep hk, mem := h.mem.keep hk, nodes := h.nodes.keep hk, pipes := h.pipes.keep hk, procs := h.procs.keep hk }
theorem KrnAt.below {w w' : World} {B : Nat} {a : KA} {k : Krn} (h : KrnAt w B a k) (hb : Below B w w') : KrnAt w' B a k := h.keep fun _ hp => hb.cell hp
theorem KrnAt.more {w : World} {B B' : Nat} {a : KA} {k : Krn} (h : KrnAt w B a k) (hB : B ≤ B') : KrnAt w B' a k :=
  { h with mods := h.mods.more hB, mem := h.mem.more hB, nodes := h.nodes.more hB, pipes := h.pipes.more hB, procs := h.procs.more hB }

/-- A kernel's struct in block b. -/
def BoxK (w : World) (b : Nat) (a : KA) (k : Krn) : Prop :=
  w.cell? ⟨b, 0, none⟩ = some (.slice a.a0 k.mods.length a.c0) ∧ w.cell? ⟨b, 1, none⟩ = some (.slice a.a1 k.mem.length a.c1) ∧ w.cell? ⟨b, 2, none⟩ = some (.slice a.a2 k.nodes.length a.c2) ∧
  w.cell? ⟨b, 3, none⟩ = some (.slice a.a3 k.pipes.length a.c3) ∧ w.cell? ⟨b, 4, none⟩ = some (.slice a.a4 k.procs.length a.c4)
theorem BoxK.below {w w' : World} {b B : Nat} {a : KA} {k : Krn} (h : BoxK w b a k) (hb : Below B w w') (hlt : b < B) : BoxK w' b a k :=
  ⟨(hb.cell (p := ⟨b, 0, none⟩) hlt).trans h.1, (hb.cell (p := ⟨b, 1, none⟩) hlt).trans h.2.1, (hb.cell (p := ⟨b, 2, none⟩) hlt).trans h.2.2.1, (hb.cell (p := ⟨b, 3, none⟩) hlt).trans h.2.2.2.1, (hb.cell (p := ⟨b, 4, none⟩) hlt).trans h.2.2.2.2⟩
/-- Every number of it fits the machine's word. -/
structure Krn.wf (k : Krn) : Prop where
  code : ∀ m ∈ k.mods, ∀ i ∈ m.code, i.wf
  data : ∀ m ∈ k.mods, ∀ n ∈ m.data, wf64 n
  mem : ∀ n ∈ k.mem, wf64 n
  nodes : ∀ x ∈ k.nodes, wf64 x.kind ∧ wf64 x.unit ∧ x.name.size ≤ maxLen ∧ x.data.size ≤ maxLen
  pipes : ∀ s ∈ k.pipes, s.size ≤ maxLen
  ends : ∀ p ∈ k.procs, ∀ x ∈ p.ends, wf64 x.kind ∧ wf64 x.node ∧ wf64 x.pos
structure Akt.wf (a : Akt) : Prop where
  kind : wf64 a.kind
  p : wf64 a.p
  n : wf64 a.n
  m : wf64 a.m
  name : a.name.size ≤ 140737488351232
  data : a.data.size ≤ 140737488351232
def Akt.cells (a : Akt) : Array Value := #[.int .i64 a.kind, .int .i64 a.p, .int .i64 a.n, .int .i64 a.m, .string a.name, .string a.data]
end Go.Proofs.YtdjamdbamkhblacDoor
