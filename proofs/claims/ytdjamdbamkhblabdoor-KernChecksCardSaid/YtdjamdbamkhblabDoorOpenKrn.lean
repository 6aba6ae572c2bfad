/- A kernel that came in, opened, with what a machine can reach of it: no condition. -/
import Derived.Test.YtdjamdbamkhblabDoorOpenKern
namespace Go.Proofs.YtdjamdbamkhblabDoor
open Go.RowKit Go.WideShapes Go.ChangeShapes Go.ChangeAt Go.Deep Go.Joins

theorem kcells_Node : Tryd.prog.cellsOf 94 = 4 := by kernel_rfl
theorem kcells_End : Tryd.prog.cellsOf 104 = 3 := by kernel_rfl
theorem kcells_Proc : Tryd.prog.cellsOf 101 = 2 := by kernel_rfl
theorem kcells_str : Tryd.prog.cellsOf 9 = 1 := by kernel_rfl
theorem kcells_Kernel : Tryd.prog.cellsOf 60 = 5 := by kernel_rfl
theorem kbytes_Node : Tryd.prog.bytesOf 94 = 48 := by kernel_rfl
theorem kbytes_End : Tryd.prog.bytesOf 104 = 24 := by kernel_rfl
theorem kbytes_Proc : Tryd.prog.bytesOf 101 = 32 := by kernel_rfl
theorem kbytes_str : Tryd.prog.bytesOf 9 = 16 := by kernel_rfl
section
variable {H : Type} {enc : TypeId × Value → H}
theorem open_strs {W : World} {base fuel : Nat} {held : Bool} {v : Value} {y : DataW H × List MemPlace}
    (h : DataW.trod enc Tryd.prog W base (fun _ => true) held fuel 57 [v] = some y) (hL : Light Tryd.prog 57 y.1) :
    ∃ (A : Option Addr) (c : Nat) (l : List ByteArray), v = .slice A l.length c ∧ l.length ≤ c ∧ (A = none → l.length = 0 ∧ c = 0) ∧ c * 16 ≤ 140737488351232 ∧ RdS W W.heap.size A l ∧ ∀ s ∈ l, s.size ≤ maxLen := by
  obtain ⟨A, n, c, rfl, hn, _, hnil, hby, hx⟩ := open_rowsW Tryd.underlying57 kcells_str (by omega) h hL
  rw [kbytes_str] at hby
  by_cases hn0 : 0 < n
  · obtain ⟨b, o, rfl, hb, hi⟩ := hx hn0
    obtain ⟨l, hl, hp⟩ := choose_list (α := ByteArray) (n := n) (p := fun i s => s.size ≤ maxLen ∧ W.cell? ⟨b, o + i, none⟩ = some (.string s)) (fun i hin => by
      obtain ⟨cs, fuel, y, hlen, hcell, htr, _⟩ := hi i hin
      obtain ⟨s, rfl, _, hs⟩ := DataW.trod_string Tryd.underlying9 htr
      have := hcell 0 (by omega)
      simp at this
      exact ⟨s, hs, this⟩)
    subst hl
    refine ⟨_, c, l, rfl, hn, hnil, hby, fun _ => ⟨b, o, rfl, hb, fun k hk => (hp k hk).2⟩, fun i hi' => ?_⟩
    obtain ⟨k, hk, rfl⟩ := List.mem_iff_getElem.1 hi'
    exact (hp k hk).1
  · obtain rfl : n = 0 := by omega
    exact ⟨A, c, [], rfl, hn, hnil, hby, fun h => absurd h (by simp), fun i hi => by cases hi⟩
theorem open_nodes {W : World} {base fuel : Nat} {held : Bool} {v : Value} {y : DataW H × List MemPlace}
    (h : DataW.trod enc Tryd.prog W base (fun _ => true) held fuel 56 [v] = some y) (hL : Light Tryd.prog 56 y.1) :
    ∃ (A : Option Addr) (c : Nat) (l : List Nod), v = .slice A l.length c ∧ l.length ≤ c ∧ (A = none → l.length = 0 ∧ c = 0) ∧ c * 48 ≤ 140737488351232 ∧ RdD W W.heap.size A l ∧ ∀ x ∈ l, wf64 x.kind ∧ wf64 x.unit ∧ x.name.size ≤ maxLen ∧ x.data.size ≤ maxLen := by
  obtain ⟨A, n, c, rfl, hn, _, hnil, hby, hx⟩ := open_rowsW Tryd.underlying56 kcells_Node (by omega) h hL
  rw [kbytes_Node] at hby
  by_cases hn0 : 0 < n
  · obtain ⟨b, o, rfl, hb, hi⟩ := hx hn0
    obtain ⟨l, hl, hp⟩ := choose_list (α := Nod) (n := n) (p := fun i x => (wf64 x.kind ∧ wf64 x.unit ∧ x.name.size ≤ maxLen ∧ x.data.size ≤ maxLen) ∧
        W.cell? ⟨b, o + i * 4, none⟩ = some (.string x.name) ∧ W.cell? ⟨b, o + i * 4 + 1, none⟩ = some (.int .i64 x.kind) ∧ W.cell? ⟨b, o + i * 4 + 2, none⟩ = some (.string x.data) ∧ W.cell? ⟨b, o + i * 4 + 3, none⟩ = some (.int .i64 x.unit)) (fun i hin => by
      obtain ⟨cs, fuel, y, hlen, hcell, htr, hLe⟩ := hi i hin
      obtain ⟨m, hf⟩ := open_fields Tryd.underlying94 (by kernel_rfl) (by simpa using hlen) htr hLe
      obtain ⟨u0, r0, k0, g0, _⟩ := hf 0 _ rfl
      obtain ⟨u1, r1, k1, g1, _⟩ := hf 1 _ rfl
      obtain ⟨u2, r2, k2, g2, _⟩ := hf 2 _ rfl
      obtain ⟨u3, r3, k3, g3, _⟩ := hf 3 _ rfl
      obtain ⟨s, e0, _, hs⟩ := DataW.trod_string Tryd.underlying9 g0
      obtain ⟨q, e1, _, hq⟩ := DataW.trod_int Tryd.underlying3 g1
      obtain ⟨d, e2, _, hd⟩ := DataW.trod_string Tryd.underlying9 g2
      obtain ⟨r, e3, _, hr⟩ := DataW.trod_int Tryd.underlying3 g3
      simp at e0 e1 e2 e3
      subst e0; subst e1; subst e2; subst e3
      exact ⟨⟨s, q, d, r⟩, ⟨wf64_of hq, wf64_of hr, hs, hd⟩, (hcell 0 (by omega)).trans k0, (hcell 1 (by omega)).trans k1, (hcell 2 (by omega)).trans k2, (hcell 3 (by omega)).trans k3⟩)
    subst hl
    refine ⟨_, c, l, rfl, hn, hnil, hby, fun _ => ⟨b, o, rfl, hb, fun k hk => (hp k hk).2⟩, fun i hi' => ?_⟩
    obtain ⟨k, hk, rfl⟩ := List.mem_iff_getElem.1 hi'
    exact (hp k hk).1
  · obtain rfl : n = 0 := by omega
    exact ⟨A, c, [], rfl, hn, hnil, hby, fun h => absurd h (by simp), fun i hi => by cases hi⟩
theorem open_ends {W : World} {base fuel : Nat} {held : Bool} {v : Value} {y : DataW H × List MemPlace}
    (h : DataW.trod enc Tryd.prog W base (fun _ => true) held fuel 99 [v] = some y) (hL : Light Tryd.prog 99 y.1) :
    ∃ (A : Option Addr) (c : Nat) (l : List Opn), v = .slice A l.length c ∧ l.length ≤ c ∧ (A = none → l.length = 0 ∧ c = 0) ∧ c * 24 ≤ 140737488351232 ∧ RdE W W.heap.size A l ∧ ∀ x ∈ l, wf64 x.kind ∧ wf64 x.node ∧ wf64 x.pos := by
  obtain ⟨A, n, c, rfl, hn, _, hnil, hby, hx⟩ := open_rowsW Tryd.underlying99 kcells_End (by omega) h hL
  rw [kbytes_End] at hby
  by_cases hn0 : 0 < n
  · obtain ⟨b, o, rfl, hb, hi⟩ := hx hn0
    obtain ⟨l, hl, hp⟩ := choose_list (α := Opn) (n := n) (p := fun i x => (wf64 x.kind ∧ wf64 x.node ∧ wf64 x.pos) ∧
        W.cell? ⟨b, o + i * 3, none⟩ = some (.int .i64 x.kind) ∧ W.cell? ⟨b, o + i * 3 + 1, none⟩ = some (.int .i64 x.node) ∧ W.cell? ⟨b, o + i * 3 + 2, none⟩ = some (.int .i64 x.pos)) (fun i hin => by
      obtain ⟨cs, fuel, y, hlen, hcell, htr, hLe⟩ := hi i hin
      obtain ⟨m, hf⟩ := open_fields Tryd.underlying104 (by kernel_rfl) (by simpa using hlen) htr hLe
      obtain ⟨u0, r0, k0, g0, _⟩ := hf 0 _ rfl
      obtain ⟨u1, r1, k1, g1, _⟩ := hf 1 _ rfl
      obtain ⟨u2, r2, k2, g2, _⟩ := hf 2 _ rfl
      obtain ⟨q, e0, _, hq⟩ := DataW.trod_int Tryd.underlying3 g0
      obtain ⟨d, e1, _, hd⟩ := DataW.trod_int Tryd.underlying3 g1
      obtain ⟨r, e2, _, hr⟩ := DataW.trod_int Tryd.underlying3 g2
      simp at e0 e1 e2
      subst e0; subst e1; subst e2
      exact ⟨⟨q, d, r⟩, ⟨wf64_of hq, wf64_of hd, wf64_of hr⟩, (hcell 0 (by omega)).trans k0, (hcell 1 (by omega)).trans k1, (hcell 2 (by omega)).trans k2⟩)
    subst hl
    refine ⟨_, c, l, rfl, hn, hnil, hby, fun _ => ⟨b, o, rfl, hb, fun k hk => (hp k hk).2⟩, fun i hi' => ?_⟩
    obtain ⟨k, hk, rfl⟩ := List.mem_iff_getElem.1 hi'
    exact (hp k hk).1
  · obtain rfl : n = 0 := by omega
    exact ⟨A, c, [], rfl, hn, hnil, hby, fun h => absurd h (by simp), fun i hi => by cases hi⟩
theorem open_procs {W : World} {base fuel : Nat} {held : Bool} {v : Value} {y : DataW H × List MemPlace}
    (h : DataW.trod enc Tryd.prog W base (fun _ => true) held fuel 58 [v] = some y) (hL : Light Tryd.prog 58 y.1) :
    ∃ (A : Option Addr) (c : Nat) (l : List Prc), v = .slice A l.length c ∧ l.length ≤ c ∧ (A = none → l.length = 0 ∧ c = 0) ∧ c * 32 ≤ 140737488351232 ∧ RdP W W.heap.size A l ∧ ∀ p ∈ l, ∀ x ∈ p.ends, wf64 x.kind ∧ wf64 x.node ∧ wf64 x.pos := by
  obtain ⟨A, n, c, rfl, hn, _, hnil, hby, hx⟩ := open_rowsW Tryd.underlying58 kcells_Proc (by omega) h hL
  rw [kbytes_Proc] at hby
  by_cases hn0 : 0 < n
  · obtain ⟨b, o, rfl, hb, hi⟩ := hx hn0
    obtain ⟨l, hl, hp⟩ := choose_list (α := Prc) (n := n) (p := fun i x => (∀ y ∈ x.ends, wf64 y.kind ∧ wf64 y.node ∧ wf64 y.pos) ∧ ∃ A1 c1,
        W.cell? ⟨b, o + i * 2, none⟩ = some (.bool x.live) ∧ W.cell? ⟨b, o + i * 2 + 1, none⟩ = some (.slice A1 x.ends.length c1) ∧ PrcAt W W.heap.size A1 c1 x) (fun i hin => by
      obtain ⟨cs, fuel, y, hlen, hcell, htr, hLe⟩ := hi i hin
      obtain ⟨m, hf⟩ := open_fields Tryd.underlying101 (by kernel_rfl) (by simpa using hlen) htr hLe
      obtain ⟨u0, r0, k0, g0, _⟩ := hf 0 _ rfl
      obtain ⟨u1, r1, k1, g1, L1⟩ := hf 1 _ rfl
      obtain ⟨q, e0, _⟩ := DataW.trod_bool Tryd.underlying4 g0
      obtain ⟨A1, c1, l1, rfl, hlc, hnil1, hby1, hr1, hw1⟩ := open_ends g1 L1
      simp at e0
      subst e0
      exact ⟨⟨q, l1⟩, hw1, A1, c1, (hcell 0 (by omega)).trans k0, (hcell 1 (by omega)).trans k1, ⟨hr1, by show l1.length * 24 ≤ _; omega, hnil1⟩⟩)
    subst hl
    refine ⟨_, c, l, rfl, hn, hnil, hby, fun _ => ⟨b, o, rfl, hb, fun k hk => (hp k hk).2⟩, fun i hi' => ?_⟩
    obtain ⟨k, hk, rfl⟩ := List.mem_iff_getElem.1 hi'
    exact (hp k hk).1
  · obtain rfl : n = 0 := by omega
    exact ⟨A, c, [], rfl, hn, hnil, hby, fun h => absurd h (by simp), fun i hi => by cases hi⟩
set_option maxRecDepth 100000 in
theorem open_kernelW {W : World} {base : Nat} {held : Bool} {v : Value} {d : DataW H} {p : List MemPlace} {r : Reach} {b0 : Nat}
    (hv : Value.okWide Tryd.prog W r b0 60 v) (h : DataW.Trod enc Tryd.prog W base (fun _ => true) held 60 v d p) (hL : Light Tryd.prog 60 d) :
    ∃ (k : Krn) (a : KA), v = .agg (a.cells k) ∧ KrnAt W W.heap.size a k ∧ k.wf ∧ a.caps k := by
  obtain ⟨cs, n, rfl, hsz, hf⟩ := fields_of_agg Tryd.underlying60 (by kernel_rfl) kcells_Kernel hv h hL
  obtain ⟨u0, r0, k0, g0, L0⟩ := hf 0 _ rfl
  obtain ⟨u1, r1, k1, g1, L1⟩ := hf 1 _ rfl
  obtain ⟨u2, r2, k2, g2, L2⟩ := hf 2 _ rfl
  obtain ⟨u3, r3, k3, g3, L3⟩ := hf 3 _ rfl
  obtain ⟨u4, r4, k4, g4, L4⟩ := hf 4 _ rfl
  obtain ⟨A0, c0, l0, rfl, h00, n0, y0, q0, w0⟩ := open_mods g0 L0
  obtain ⟨A1, c1, l1, rfl, h01, _, n1, q1, w1⟩ := open_intlist' Tryd.underlying33 Tryd.underlying3 cells_int g1
  have y1 := reach_slice Tryd.underlying33 cells_int (by omega) g1 L1
  rw [bytes_int] at y1
  obtain ⟨A2, c2, l2, rfl, h02, n2, y2, q2, w2⟩ := open_nodes g2 L2
  obtain ⟨A3, c3, l3, rfl, h03, n3, y3, q3, w3⟩ := open_strs g3 L3
  obtain ⟨A4, c4, l4, rfl, h04, n4, y4, q4, w4⟩ := open_procs g4 L4
  refine ⟨⟨l0, l1, l2, l3, l4⟩, ⟨A0, c0, A1, c1, A2, c2, A3, c3, A4, c4⟩, ?_, ⟨q0, q1, q2, q3, q4, by show l0.length * 64 ≤ _; omega, by show l1.length * 8 ≤ _; omega, by show l2.length * 48 ≤ _; omega, by show l3.length * 16 ≤ _; omega, by show l4.length * 32 ≤ _; omega, n0, n1, n2, n3, n4⟩,
    ⟨fun m hm => (w0 m hm).1, fun m hm => (w0 m hm).2, w1, w2, w3, w4⟩, ⟨h00, h02⟩⟩
  have e5 : cs.size = 5 := hsz
  match cs, e5 with
  | ⟨[x0, x1, x2, x3, x4]⟩, _ =>
    simp at k0 k1 k2 k3 k4
    subst k0; subst k1; subst k2; subst k3; subst k4
    rfl
end
end Go.Proofs.YtdjamdbamkhblabDoor
