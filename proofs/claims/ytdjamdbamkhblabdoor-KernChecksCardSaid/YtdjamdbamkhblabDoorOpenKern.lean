/- Modules and kernels that came in, opened, with what a machine can reach: no condition. -/
import Derived.Test.YtdjamdbamkhblabDoorWeigh
import Derived.Test.YtdjamdbamkhblabDoorKernData
namespace Go.Proofs.YtdjamdbamkhblabDoor
open Go.RowKit Go.WideShapes Go.ChangeShapes Go.ChangeAt Go.Deep Go.Joins

theorem cells_Module' : Tryd.prog.cellsOf 50 = 3 := by kernel_rfl
theorem bytes_int : Tryd.prog.bytesOf 3 = 8 := by kernel_rfl
theorem bytes_Instr : Tryd.prog.bytesOf 45 = 32 := by kernel_rfl
theorem bytes_Module : Tryd.prog.bytesOf 50 = 64 := by kernel_rfl
section
variable {H : Type} {enc : TypeId × Value → H}
theorem open_mod1 {W : World} {base fuel : Nat} {held : Bool} {cs : List Value} {y : DataW H × List MemPlace} (hlen : cs.length = 3)
    (h : DataW.trod enc Tryd.prog W base (fun _ => true) held fuel 50 cs = some y) (hL : Light Tryd.prog 50 y.1) :
    ∃ (m : Mod) (A : Option Addr) (c : Nat) (A' : Option Addr) (c' : Nat), cs = [.string m.name, .slice A m.code.length c, .slice A' m.data.length c'] ∧ ModAt W W.heap.size A c A' c' m ∧ (∀ i ∈ m.code, i.wf) ∧ ∀ n ∈ m.data, wf64 n := by
  obtain ⟨n, hf⟩ := open_fields Tryd.underlying50 (by kernel_rfl) hlen h hL
  obtain ⟨u0, z0, k0, g0, L0⟩ := hf 0 _ rfl
  obtain ⟨u1, z1, k1, g1, L1⟩ := hf 1 _ rfl
  obtain ⟨u2, z2, k2, g2, L2⟩ := hf 2 _ rfl
  obtain ⟨s, e0, rfl, hs⟩ := DataW.trod_string Tryd.underlying9 g0
  obtain ⟨A, c, l, rfl, hlc, hcm, hnil, hr, hw⟩ := open_code' Tryd.underlying25 Tryd.underlying45 (by kernel_rfl) cells_Instr Tryd.underlying3 Tryd.underlying3 Tryd.underlying3 Tryd.underlying3 g1
  obtain ⟨A', c', l', rfl, hlc', hcm', hnil', hr', hw'⟩ := open_intlist' Tryd.underlying33 Tryd.underlying3 cells_int g2
  have w1 := reach_slice Tryd.underlying25 cells_Instr (by omega) g1 L1
  have w2 := reach_slice Tryd.underlying33 cells_int (by omega) g2 L2
  rw [bytes_Instr] at w1
  rw [bytes_int] at w2
  obtain rfl : u0 = .string s := by simpa using e0
  have hS : s.size ≤ 140737488351232 := by
    have := L0 s.data.toList.length (by simp [DataW.weights])
    simpa using this
  refine ⟨⟨s, l, l'⟩, A, c, A', c', ?_, ⟨hr, hr', hS, by show l.length * 32 ≤ _; omega, by show l'.length * 8 ≤ _; omega, hnil, hnil'⟩, hw, hw'⟩
  match cs, hlen with
  | [x0, x1, x2], _ =>
    simp at k0 k1 k2
    subst k0; subst k1; subst k2
    rfl
set_option maxRecDepth 100000 in
theorem open_moduleW {W : World} {base : Nat} {held : Bool} {v : Value} {d : DataW H} {p : List MemPlace} {r : Reach} {b0 : Nat}
    (hv : Value.okWide Tryd.prog W r b0 50 v) (h : DataW.Trod enc Tryd.prog W base (fun _ => true) held 50 v d p) (hL : Light Tryd.prog 50 d) :
    ∃ (m : Mod) (A : Option Addr) (c : Nat) (A' : Option Addr) (c' : Nat), v = .agg #[.string m.name, .slice A m.code.length c, .slice A' m.data.length c'] ∧ ModAt W W.heap.size A c A' c' m ∧ (∀ i ∈ m.code, i.wf) ∧ ∀ n ∈ m.data, wf64 n := by
  obtain ⟨cs, rfl, hsz⟩ := okWide_struct Tryd.underlying50 hv
  obtain ⟨fuel, hf⟩ := h
  have e1 : (Value.agg cs).cells.toList = cs.toList := by simp [Value.cells]
  rw [e1] at hf
  obtain ⟨m, A, c, A', c', e, h1, h2, h3⟩ := open_mod1 (y := (d, p)) (by rw [Array.length_toList, hsz]; exact cells_Module') hf hL
  refine ⟨m, A, c, A', c', ?_, h1, h2, h3⟩
  cases cs
  simp only at e
  rw [e]
theorem open_mods {W : World} {base fuel : Nat} {held : Bool} {v : Value} {y : DataW H × List MemPlace}
    (h : DataW.trod enc Tryd.prog W base (fun _ => true) held fuel 55 [v] = some y) (hL : Light Tryd.prog 55 y.1) :
    ∃ (A : Option Addr) (c : Nat) (l : List Mod), v = .slice A l.length c ∧ l.length ≤ c ∧ (A = none → l.length = 0 ∧ c = 0) ∧ c * 64 ≤ 140737488351232 ∧ RdM W W.heap.size A l ∧ ∀ m ∈ l, (∀ i ∈ m.code, i.wf) ∧ ∀ n ∈ m.data, wf64 n := by
  obtain ⟨A, n, c, rfl, hn, _, hnil, hby, hx⟩ := open_rowsW Tryd.underlying55 cells_Module' (by omega) h hL
  rw [bytes_Module] at hby
  by_cases hn0 : 0 < n
  · obtain ⟨b, o, rfl, hb, hi⟩ := hx hn0
    obtain ⟨l, hl, hp⟩ := choose_list (α := Mod) (n := n) (p := fun i m => ((∀ i ∈ m.code, i.wf) ∧ ∀ n ∈ m.data, wf64 n) ∧ ∃ A1 c1 A2 c2,
        W.cell? ⟨b, o + i * 3, none⟩ = some (.string m.name) ∧ W.cell? ⟨b, o + i * 3 + 1, none⟩ = some (.slice A1 m.code.length c1) ∧
        W.cell? ⟨b, o + i * 3 + 2, none⟩ = some (.slice A2 m.data.length c2) ∧ ModAt W W.heap.size A1 c1 A2 c2 m) (fun i hin => by
      obtain ⟨cs, fuel, y, hlen, hcell, htr, hLe⟩ := hi i hin
      obtain ⟨m, A1, c1, A2, c2, rfl, h1, h2⟩ := open_mod1 hlen htr hLe
      exact ⟨m, h2, A1, c1, A2, c2, hcell 0 (by omega), hcell 1 (by omega), hcell 2 (by omega), h1⟩)
    subst hl
    refine ⟨_, c, l, rfl, hn, hnil, hby, fun _ => ⟨b, o, rfl, hb, fun k hk => (hp k hk).2⟩, fun i hi' => ?_⟩
    obtain ⟨k, hk, rfl⟩ := List.mem_iff_getElem.1 hi'
    exact (hp k hk).1
  · obtain rfl : n = 0 := by omega
    exact ⟨A, c, [], rfl, hn, hnil, hby, fun h => absurd h (by simp), fun i hi => by cases hi⟩
end

theorem cells_Node : Tryd.prog.cellsOf 94 = 4 := by kernel_rfl
theorem cells_End : Tryd.prog.cellsOf 104 = 3 := by kernel_rfl
theorem cells_Proc : Tryd.prog.cellsOf 101 = 2 := by kernel_rfl
theorem cells_str : Tryd.prog.cellsOf 9 = 1 := by kernel_rfl
theorem cells_Kernel : Tryd.prog.cellsOf 60 = 5 := by kernel_rfl
theorem bytes_Node : Tryd.prog.bytesOf 94 = 48 := by kernel_rfl
theorem bytes_End : Tryd.prog.bytesOf 104 = 24 := by kernel_rfl
theorem bytes_Proc : Tryd.prog.bytesOf 101 = 32 := by kernel_rfl
theorem bytes_str : Tryd.prog.bytesOf 9 = 16 := by kernel_rfl
end Go.Proofs.YtdjamdbamkhblabDoor
