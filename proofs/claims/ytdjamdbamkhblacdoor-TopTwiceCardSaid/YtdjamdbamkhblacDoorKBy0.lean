/- The kernel's by: what its walks share. No condition. By an AI agent (xby.py). -/
import Derived.Test.YtdjamdbamkhblacDoorG12
import Derived.Test.YtdjamdbamkhblacDoorG14
import Derived.Test.YtdjamdbamkhblacDoorTidy
import Derived.Test.YtdjamdbamkhblacDoorG08
namespace Go.Proofs.YtdjamdbamkhblacDoor
open Go.RowKit
set_option linter.unusedVariables false
set_option linter.unusedSimpArgs false
attribute [local go_sem] After.cell
def ByPost (B : Nat) (w : World) (g : Nat) (ms : List (Value × Value)) (r : Krn × Ans) (e : Ending) (w' : World) : Prop :=
 e = .returned (.agg #[.int .i64 r.2.code, .int .i64 r.2.n, .string r.2.data]) ∧ Fr B w w' ∧ ∃ a' es', KS B w' g a' r.1 ms es'
structure ByAt (B : Nat) (w W : World) (g : Nat) (a : KA) (k : Krn) (ms : List (Value × Value)) (es : List Value) (cs : Array Value) : Prop where
 ks : KS B W g a k ms es
 fr : Fr B w W
 lt : B ≤ w.heap.size
 wk : Blk W w.heap.size 138 #[.pointer (some ⟨g, 0, none⟩)]
 ac : Blk W (w.heap.size + 1) 26 cs
 rs : Blk W (w.heap.size + 2) 41 #[.int .i64 0, .int .i64 0, .string ⟨#[]⟩]
 ot : Blk W (w.heap.size + 3) 41 #[.int .i64 0, .int .i64 0, .string ⟨#[]⟩]
section
variable {B g b4 p : Nat} {a : KA} {k : Krn} {ms : List (Value × Value)} {es : List Value} {w W W' : World} {cs : Array Value}
theorem ByAt.start (h : KS B w g a k ms es) (cs : Array Value) : ByAt B w ((((w.alloc (.cells #[.pointer (some ⟨g, 0, none⟩)] 138)).alloc (.cells cs 26)).alloc (.cells #[.int .i64 0, .int .i64 0, .string ⟨#[]⟩] 41)).alloc (.cells #[.int .i64 0, .int .i64 0, .string ⟨#[]⟩] 41)) g a k ms es cs := by
 have hb1 := below_box w (.cells #[.pointer (some ⟨g, 0, none⟩)] 138)
 have hb2 := hb1.alloc hb1.size (.cells cs 26)
 have hb3 := hb2.alloc hb2.size (.cells #[.int .i64 0, .int .i64 0, .string ⟨#[]⟩] 41)
 have hb4 := hb3.alloc hb3.size (.cells #[.int .i64 0, .int .i64 0, .string ⟨#[]⟩] 41)
 exact ⟨h.below hb4, Fr.low hb4 (Nat.le_of_lt h.lt), Nat.le_of_lt h.lt, (((Blk.new w _ _).alloc _).alloc _).alloc _, ((Blk.new' (by simp)).alloc _).alloc _, (Blk.new' (by simp)).alloc _, Blk.new' (by simp)⟩
theorem ByAt.below (h : ByAt B w W g a k ms es cs) (hb : Below W.heap.size W W') : ByAt B w W' g a k ms es cs :=
 ⟨h.ks.below hb, h.fr.trans (Fr.low hb (Nat.le_of_lt h.ks.lt)), h.lt, h.wk.below hb h.wk.lt, h.ac.below hb h.ac.lt, h.rs.below hb h.rs.lt, h.ot.below hb h.ot.lt⟩
theorem ByAt.next {a' : KA} {k' : Krn} {es' : List Value} (h : ByAt B w W g a k ms es cs) (hk : KS B W' g a' k' ms es') (hf : Fr B W W') : ByAt B w W' g a' k' ms es' cs :=
 ⟨hk, h.fr.trans hf, h.lt, hf.blk h.wk (by decide), hf.blk h.ac (by decide), hf.blk h.rs (by decide), hf.blk h.ot (by decide)⟩
theorem KS.rdE {be c i : Nat} (h : KS B W g a k ms es) (hp : p < k.procs.length) (hp' : p < es.length) (he : es[p] = .slice (some ⟨be, 0, none⟩) k.procs[p].ends.length c) : RdE W W.heap.size (some ⟨be, 0, none⟩) k.procs[p].ends := by
 have ho := h.cp.ends.at_ p hp hp'
 rw [he] at ho
 exact RdE.of (Rd.of_own ho)
theorem KS.opnB {be c i : Nat} (h : KS B W g a k ms es) (hp : p < k.procs.length) (hp' : p < es.length) (he : es[p] = .slice (some ⟨be, 0, none⟩) k.procs[p].ends.length c) (hi : i < k.procs[p].ends.length) :
  be < W.heap.size ∧ W.cell? ⟨be, i * 3, none⟩ = some (.int .i64 k.procs[p].ends[i].kind) ∧ W.cell? ⟨be, i * 3 + 1, none⟩ = some (.int .i64 k.procs[p].ends[i].node) ∧ W.cell? ⟨be, i * 3 + 2, none⟩ = some (.int .i64 k.procs[p].ends[i].pos) := by
 have ho := h.cp.ends.at_ p hp hp'
 rw [he] at ho
 obtain ⟨b, hb, _, hlt⟩ := own_addr ho (by omega)
 cases hb
 have hr := Rd.of_own ho
 obtain ⟨b, o, hb, _, hc⟩ := hr.2 (by omega)
 cases hb
 obtain ⟨e0, e1, e2⟩ := endCells_at k.procs[p].ends i hi
 have c0 := hc _ _ e0
 have c1 := hc _ _ e1
 have c2 := hc _ _ e2
 rw [Nat.zero_add] at c0 c1 c2
 exact ⟨hlt, c0, c1, c2⟩
theorem KS.rdF {be c : Nat} (h : KS B W g a k ms es) (hp : p < k.procs.length) (hp' : p < es.length) (he : es[p] = .slice (some ⟨be, 0, none⟩) k.procs[p].ends.length c) (i : Nat) : W.frozen? ⟨be, i, none⟩ = false := by
 have ho := h.cp.ends.at_ p hp hp'
 rw [he] at ho
 exact ho.frozenAt i
theorem KS.place_ {be c : Nat} (h : KS B W g a k ms es) (hp : p < k.procs.length) (hp' : p < es.length) (ha4 : a.a4 = some ⟨b4, 0, none⟩) (hes : es[p] = .slice (some ⟨be, 0, none⟩) k.procs[p].ends.length c) (hel : k.procs[p].ends.length = 6) :
  b4 < W.heap.size ∧ W.cell? ⟨b4, p * 2 + 1, none⟩ = some (.slice (some ⟨be, 0, none⟩) 6 c) ∧
  Calls Tryd.prog 118 #[.pointer (some ⟨b4, p * 2, none⟩)] W fun e w' => e = .returned (.int .i64 (freeE k.procs[p].ends)) ∧ Below W.heap.size W w' := by
 obtain ⟨b5, be', c', _, e5, _, hl5, hes', _, _, _, _, z1'⟩ := h.prcAt hp (by omega)
 obtain rfl : b4 = b5 := by rw [ha4] at e5; injection e5 with e5; injection e5
 rw [hes] at hes'
 have e6 : (some ⟨be, 0, none⟩ : Option Addr) = some ⟨be', 0, none⟩ ∧ c = c' := by injection hes' with q1 q2 q3; exact ⟨q1, q3⟩
 rw [hel, ← e6.1, ← e6.2] at z1'
 exact ⟨hl5, z1', place_any b4 (p * 2) (some ⟨be, 0, none⟩) c k.procs[p].ends W hl5 (by rw [hel]; exact z1') (KS.rdE (i := 0) h hp hp' hes) hel⟩
theorem by_pre (w : World) (h : KS B w g a k ms es) (hk : KOk k) (hp : p < 4) (ha4 : a.a4 = some ⟨b4, 0, none⟩) :
  ∃ (hpl : p < k.procs.length) (be c : Nat) (hp' : p < es.length), k.procs[p].ends.length = 6 ∧ Hid (k.procs.getD p default = k.procs[p]) ∧ Hid (KOk k) ∧ Hid (es[p] = .slice (some ⟨be, 0, none⟩) k.procs[p].ends.length c) ∧
   Hid (∀ W : World, KS B W g a k ms es → b4 < W.heap.size ∧ W.cell? ⟨b4, p * 2 + 1, none⟩ = some (.slice (some ⟨be, 0, none⟩) 6 c)) ∧
   Hid (∀ W : World, KS B W g a k ms es → Calls Tryd.prog 118 #[.pointer (some ⟨b4, p * 2, none⟩)] W fun e w' => e = .returned (.int .i64 (freeE k.procs[p].ends)) ∧ Below W.heap.size W w') ∧ Hid (B ≤ w.heap.size) ∧ Hid (a.a4 = some ⟨b4, 0, none⟩) := by
 have hpl : p < k.procs.length := by rw [hk.l4]; exact hp
 have hel : k.procs[p].ends.length = 6 := by have := ends_len hk hp; rw [getD_eq hpl] at this; exact this
 obtain ⟨b4', be, c, hp', e4, hbb4, hlt4, hes, hbe, hlte, hce, z0, z1⟩ := h.prcAt hpl (by omega)
 obtain rfl : b4 = b4' := by rw [ha4] at e4; injection e4 with e4; injection e4
 have HUN : Hid (k.procs.getD p default = k.procs[p]) := getD_eq hpl
 have HKO := Lib.hid hk
 have HES := Lib.hid hes
 have HPL : Hid (∀ W : World, KS B W g a k ms es → b4 < W.heap.size ∧ W.cell? ⟨b4, p * 2 + 1, none⟩ = some (.slice (some ⟨be, 0, none⟩) 6 c)) := fun W hW => by
  obtain ⟨b5, be', c', _, e5, _, hl5, hes', _, _, _, _, z1'⟩ := hW.prcAt hpl (by omega)
  obtain rfl : b4 = b5 := by rw [ha4] at e5; injection e5 with e5; injection e5
  rw [hes] at hes'
  have e6 : (some ⟨be, 0, none⟩ : Option Addr) = some ⟨be', 0, none⟩ ∧ c = c' := by injection hes' with q1 q2 q3; exact ⟨q1, q3⟩
  rw [hel, ← e6.1, ← e6.2] at z1'
  exact ⟨hl5, z1'⟩
 have HPLC : Hid (∀ W : World, KS B W g a k ms es → Calls Tryd.prog 118 #[.pointer (some ⟨b4, p * 2, none⟩)] W fun e w' => e = .returned (.int .i64 (freeE k.procs[p].ends)) ∧ Below W.heap.size W w') := fun W hW => by
  obtain ⟨q1, q2⟩ := HPL.out W hW
  exact place_any b4 (p * 2) (some ⟨be, 0, none⟩) c k.procs[p].ends W q1 (by rw [hel]; exact q2) (KS.rdE (i := 0) hW hpl hp' hes) hel
 exact ⟨hpl, be, c, hp', hel, HUN, HKO, HES, HPL, HPLC, Nat.le_of_lt h.lt, ha4⟩
def pipP (k : Krn) (i : Nat) : Bool := !hasE k.procs 2 i && !hasE k.procs 3 i
def pipF (k : Krn) (j : Nat) : Int := idxF (pipP k) ([0, 1, 2, 3, 4, 5].take j) 0
theorem idxF_snoc {α : Type} (q : α → Bool) : ∀ (l : List α) (x : α) (n : Nat), idxF q (l ++ [x]) n = if 0 ≤ idxF q l n then idxF q l n else if q x = true then ((n + l.length : Nat) : Int) else -1
 | [], x, n => by
   cases h : q x <;> simp [idxF, h]
 | y :: r, x, n => by
   rw [List.cons_append, idxF, idxF]
   cases h : q y with
   | true => first | (simp; done) | (simp; omega)
   | false =>
     have := idxF_snoc q r x (n + 1)
     simp only [Bool.false_eq_true, if_false]
     rw [this]
     have e : n + 1 + r.length = n + (y :: r).length := by simp; omega
     rw [e]
theorem pipF_step {k : Krn} {j : Nat} (hj : j < 6) : pipF k (j + 1) = if 0 ≤ pipF k j then pipF k j else if pipP k j = true then (j : Int) else -1 := by
 have e : ([0, 1, 2, 3, 4, 5] : List Nat).take (j + 1) = ([0, 1, 2, 3, 4, 5] : List Nat).take j ++ [j] ∧ (([0, 1, 2, 3, 4, 5] : List Nat).take j).length = j := by
  match j, hj with
  | 0, _ => exact ⟨rfl, rfl⟩
  | 1, _ => exact ⟨rfl, rfl⟩
  | 2, _ => exact ⟨rfl, rfl⟩
  | 3, _ => exact ⟨rfl, rfl⟩
  | 4, _ => exact ⟨rfl, rfl⟩
  | 5, _ => exact ⟨rfl, rfl⟩
 unfold pipF
 rw [e.1, idxF_snoc, e.2, Nat.zero_add]
theorem idxF_low {α : Type} (q : α → Bool) : ∀ (l : List α) (n : Nat), -1 ≤ idxF q l n
 | [], n => by simp [idxF]
 | y :: r, n => by
   rw [idxF]
   split
   ·omega
   ·exact idxF_low q r (n + 1)
theorem pipF_neg {k : Krn} {j : Nat} (h : pipF k j < 0) : pipF k j = -1 := by
 have := idxF_low (pipP k) ([0, 1, 2, 3, 4, 5].take j) 0
 unfold pipF at h ⊢
 omega
theorem pipF_all (k : Krn) : pipF k 6 = freePipe k := rfl
theorem free_end {k : Krn} (h : KOk k) {i : Nat} (hp : p < 4) (hpl : p < k.procs.length) (hi : i < k.procs[p].ends.length) (h0 : k.procs[p].ends[i].kind = 0) : k.procs[p].ends[i] = default := by
 have := ends_ok h (p := p) (i := i) hp
 rw [getD_eq hpl, getD_eq hi] at this
 obtain ⟨x, hx⟩ : ∃ x, x = k.procs[p].ends[i] := ⟨_, rfl⟩
 rw [← hx] at h0 this ⊢
 clear hx
 unfold endOk at this
 rw [if_pos h0] at this
 obtain ⟨x0, x1, x2⟩ := x
 simp at h0 this
 obtain ⟨h1, h2⟩ := this
 subst h0 h1 h2
 rfl
theorem setEnd_back {k : Krn} {i : Nat} (hpl : p < k.procs.length) (hi : i < k.procs[p].ends.length) (y : Opn) (he : k.procs[p].ends[i] = default) : setEnd (setEnd k p i y) p i default = k := by
 rw [setEnd_set hpl, setEnd_eq hpl, ← he, List.set_getElem_self]
 have : (⟨k.procs[p].live, k.procs[p].ends⟩ : Prc) = k.procs[p] := rfl
 rw [this, List.set_getElem_self]
def zEnds : Array Value := madeCells #[.int .i64 0, .int .i64 0, .int .i64 0] 18
theorem mk_ends (w : World) : (Instr.makeSlice 77 (.int .i64 6) (.int .i64 6)).run Tryd.prog w = .ok (.slice (some ⟨w.heap.size, 0, none⟩) 6 6) (w.alloc (.cells zEnds 82)) := mk_lit w 77 82 _ 3 24 6 Tryd.underlying77 info_end (by omega) (by omega)
theorem own_ends (w : World) : (w.alloc (.cells zEnds 82)).ownsRow w.heap.size 82 3 (.slice (some ⟨w.heap.size, 0, none⟩) 6 6) 6 (endCells (List.replicate 6 default)) :=
 ⟨rfl, .inr ⟨_, 6, _, rfl, Nat.le_refl _, Blk.new w _ _, Nat.le_refl _, by decide, by kernel_rfl, by kernel_rfl⟩⟩
structure ByEnd (B : Nat) (w W : World) (g : Nat) (a : KA) (k : Krn) (ms : List (Value × Value)) (es : List Value) (u0 u1 : Int) (s : ByteArray) : Prop where
 ks : KS B W g a k ms es
 fr : Fr B w W
 lt : B ≤ w.heap.size
 rs : Blk W (w.heap.size + 2) 41 #[.int .i64 0, .int .i64 0, .string ⟨#[]⟩]
 ot : Blk W (w.heap.size + 3) 41 #[.int .i64 u0, .int .i64 u1, .string s]
theorem ByAt.nothing (h : ByAt B w W g a k ms es cs) : ByEnd B w W g a k ms es 0 0 noS := ⟨h.ks, h.fr, h.lt, h.rs, h.ot⟩
theorem ByEnd.set_ {u0 u1 v0 v1 : Int} {s t : ByteArray} (h : ByEnd B w W g a k ms es u0 u1 s) (i : Nat) (u : Value) (he : (#[.int .i64 u0, .int .i64 u1, .string s] : Array Value).setIfInBounds i u = #[.int .i64 v0, .int .i64 v1, .string t]) :
  ByEnd B w (W.setCell ⟨w.heap.size + 3, i, none⟩ u) g a k ms es v0 v1 t :=
 ⟨h.ks.ans h.ot u, h.fr.setNew (q := w.heap.size + 3) (by omega) (by have := h.lt; omega) u, h.lt, h.rs.far (p := ⟨w.heap.size + 3, i, none⟩) (by simp) u, by have := h.ot.set_ i u; rw [he] at this; exact this⟩
theorem ByAt.code (h : ByAt B w W g a k ms es cs) (u : Int) : ByEnd B w (W.setCell ⟨w.heap.size + 3, 0, none⟩ (.int .i64 u)) g a k ms es u 0 noS := h.nothing.set_ 0 _ rfl
theorem ByAt.num (h : ByAt B w W g a k ms es cs) (u : Int) : ByEnd B w (W.setCell ⟨w.heap.size + 3, 1, none⟩ (.int .i64 u)) g a k ms es 0 u noS := h.nothing.set_ 1 _ rfl
theorem ByEnd.fin {u0 u1 : Int} {s : ByteArray} (h : ByEnd B w W g a k ms es u0 u1 s) (r : Krn × Ans) (hr : r = (k, ⟨u0, u1, s⟩)) :
  ByPost B w g ms r (.returned (.agg #[.int .i64 u0, .int .i64 u1, .string s])) (((W.setCell ⟨w.heap.size + 2, 0, none⟩ (.int .i64 u0)).setCell ⟨w.heap.size + 2, 1, none⟩ (.int .i64 u1)).setCell ⟨w.heap.size + 2, 2, none⟩ (.string s)) := by
 subst hr
 exact ⟨rfl, h.fr.ans3 (Nat.le_add_right _ 2) h.lt _ _ _, _, _, (h.ks.ans3 h.rs (by have := h.lt; omega) _ _ _).1⟩
end
end Go.Proofs.YtdjamdbamkhblacDoor
