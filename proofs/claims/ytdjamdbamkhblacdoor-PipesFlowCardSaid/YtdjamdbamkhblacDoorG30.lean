/- The walk of K.Data: bytes of raw things. No condition. The run's contract, put in for the program's cpu.Run. Condition: the listed table. A struct of four integers that came in by value, opened. What the cards' proofs of this seat share: the table that the rows list, and a world in which it lies. -/
import Derived.Test.YtdjamdbamkhblacDoorG29
import Derived.Test.YtdjamdbamkhblacDoorG21
import Derived.Test.YtdjamdbamkhblacDoorG02
import Derived.Test.YtdjamdbamkhblacDoorG19
import Derived.Test.YtdjamdbamkhblacDoorRun
import Derived.Test.YtdjamdbamkhblacDoorG05
namespace Go.Proofs.YtdjamdbamkhblacDoor
open Go.RowKit
set_option linter.unusedVariables false
set_option linter.unusedSimpArgs false
/-- The bytes as far as they are laid. -/
structure DatS (w wr : World) (r : Ins) (n k : Nat) (cs : Array Value) : Prop where
  below : Below w.heap.size w wr
  raw : Blk wr w.heap.size 23 #[.int .i64 r.op, .int .i64 r.a, .int .i64 r.b, .int .i64 r.c]
  blk : Blk wr (w.heap.size + 1) 5 cs
  size : cs.size = n
  known : ∀ j, j < k → cs[j]? = some (.int .u8 ((97 + (j + pick r.b 26) % 26 : Nat) : Int))
theorem DatS.next {w wr : World} {r : Ins} {n k : Nat} {cs : Array Value} (h : DatS w wr r n k cs) (hk : k < n) : DatS w (wr.setCell ⟨w.heap.size + 1, k, none⟩ (.int .u8 ((97 + (k + pick r.b 26) % 26 : Nat) : Int))) r n (k + 1) (cs.setIfInBounds k (.int .u8 ((97 + (k + pick r.b 26) % 26 : Nat) : Int))) := by
  refine ⟨h.below.setCell (p := ⟨w.heap.size + 1, k, none⟩) (by simp) _, h.raw.far (by simp) _, h.blk.set_ k _, by simp [h.size], fun j hj => ?_⟩
  rw [Array.getElem?_setIfInBounds]
  by_cases e : k = j
  · subst e
    simp [h.size, hk]
  · rw [if_neg e]
    exact h.known j (by omega)
theorem DatS.start (w : World) (r : Ins) (n : Nat) : DatS w ((w.alloc (.cells #[.int .i64 r.op, .int .i64 r.a, .int .i64 r.b, .int .i64 r.c] 23)).alloc (.cells (madeCells #[.int .u8 0] n) 5)) r n 0 (madeCells #[.int .u8 0] n) := by
  have h1 := (Below.refl w.heap.size w).alloc (Nat.le_refl _) (.cells #[.int .i64 r.op, .int .i64 r.a, .int .i64 r.b, .int .i64 r.c] 23)
  exact ⟨h1.alloc h1.size _, (Blk.new w _ _).alloc _, Blk.new' (by simp), by rw [size_madeCells], fun j hj => by omega⟩
theorem dataTo_length (b : Int) (k : Nat) : (dataTo b k).length = k := by simp [dataTo]
theorem DatS.row {w wr : World} {r : Ins} {n : Nat} {cs : Array Value} (h : DatS w wr r n n cs) (hn : n ≤ maxLen) : ByRow wr w.heap.size (w.heap.size + 1) n (dataTo r.b n) := by
  have hl := dataTo_length r.b n
  refine ⟨by omega, by omega, hn, fun j hj => ?_, fun j hj => ?_, fun j hj => h.blk.frozen j, ⟨cs, (0, 0), h.blk⟩⟩
  · rw [h.blk.cell, h.known j (by omega)]
    congr 2
    simp only [dataTo, List.getElem_map, List.getElem_range]
    rw [u8_toNat]
    omega
  · rw [h.blk.cell, Array.getElem?_eq_getElem (by rw [h.size]; exact hj)]
    rfl
set_option maxRecDepth 100000 in
set_option maxHeartbeats 4000000 in
theorem KData_any (r : Ins) (hr : r.wf) (w : World) :
    Calls Tryd.prog 12 #[.agg #[.int .i64 r.op, .int .i64 r.a, .int .i64 r.b, .int .i64 r.c]] w fun e w' => e = .returned (.string (dataS r.a r.b)) ∧ Below w.heap.size w w' := by
  obtain ⟨_, hra, hrb, _⟩ := hr
  obtain ⟨p, hp⟩ : ∃ p, p = pick r.a 30 := ⟨_, rfl⟩
  have hp30 : p < 30 := by rw [hp]; exact pick_lt _ (by omega)
  have CA : Hid (∀ W : World, Calls Tryd.prog 13 #[.int .i64 r.a, .int .i64 30] W fun e w' => e = .returned (.int .i64 (p : Nat)) ∧ W = w') := fun W => by rw [hp]; exact picked_any r.a 30 W hra.1 hra.2 (by omega) (by omega)
  obtain ⟨q, hq⟩ : ∃ q, q = pick r.b 26 := ⟨_, rfl⟩
  have hq26 : q < 26 := by rw [hq]; exact pick_lt _ (by omega)
  have CB : Hid (∀ W : World, Calls Tryd.prog 13 #[.int .i64 r.b, .int .i64 26] W fun e w' => e = .returned (.int .i64 (q : Nat)) ∧ W = w') := fun W => by rw [hq]; exact picked_any r.b 26 W hrb.1 hrb.2 (by omega) (by omega)
  have HV : Hid (dataS r.a r.b = ⟨(dataTo r.b (1 + p)).toArray⟩) := by show _ = _; rw [hp]; rfl
  have HQ := Lib.hid hq
  have hmk : ∀ w : World, (Instr.makeSlice 84 (.int .i64 (1 + (p : Int))) (.int .i64 (1 + (p : Int)))).run Tryd.prog w = .ok (.slice (some ⟨w.heap.size, 0, none⟩) (1 + p) (1 + p)) (w.alloc (.cells (madeCells #[.int .u8 0] (1 + p)) 5)) := fun w => by
    have e := mk_lit w 84 5 _ 1 1 (1 + p) Tryd.underlying84 binfo_u8 (by omega) (by omega)
    have ec : ((1 + p : Nat) : Int) = 1 + (p : Int) := by omega
    rw [Nat.mul_one, ec] at e
    exact e
  have hS := DatS.start w r (1 + p)
  clear hp hq hra hrb
  go_enter Tryd.func12, Tryd.ntmps12
  go_wp2_with (first | (go_at_call 13; (with_reducible refine (CA.out _).mono ?_); rintro e w' ⟨rfl, rfl⟩))
  go_loopw [12] (fun i wr => Cnt (1 + p) i fun k => ∃ cs, DatS w wr r (1 + p) k cs) (fun i _ => 1 + p - (intOf i).toNat)
  case atStart => exact ⟨0, Nat.zero_le _, rfl, _, hS⟩
  case round =>
    clear hS
    obtain ⟨k, hk', rfl, cs, hS⟩ := hrel
    by_cases hlt : k < 1 + p
    · have hkp : (k : Int) < 1 + (p : Int) := by omega
      obtain ⟨x0, hx0⟩ : ∃ x0, cs[k]? = some x0 := ⟨_, Array.getElem?_eq_getElem (by rw [hS.size]; exact hlt)⟩
      have c0 := (hS.blk.cell k).trans hx0
      have f0 := hS.blk.frozen k
      have bl := hS.blk.lt
      have d2 := hS.raw.cell 2
      have dl := hS.raw.lt
      simp at d2
      have HN := Lib.hid (hS.next hlt)
      have HK := Lib.hid hkp
      clear hS hx0
      go_wp2_with (first | (go_at_call 13; (with_reducible refine (CB.out _).mono ?_); rintro e w' ⟨rfl, rfl⟩))
      have e1 : 97 + ((k : Int) + (q : Int)) % 26 = ((97 + (k + pick r.b 26) % 26 : Nat) : Int) := by rw [← HQ.out]; omega
      exact ⟨⟨k + 1, by omega, by go_num, _, by rw [e1]; exact HN.out⟩, by simp [intOf]; omega⟩
    · obtain rfl : k = 1 + p := by omega
      have HRW := hS.row (by unfold maxLen; omega)
      have hcv := conv_row (cap := 1 + p) HRW
      rw [dataTo_length] at hcv
      have HB := Lib.hid hS.below
      clear hS HRW
      go_wp2
      go_ret
      rw [HV.out]
      exact ⟨rfl, HB.out⟩
end Go.Proofs.YtdjamdbamkhblacDoor
namespace Go.Proofs.YtdjamdbamkhblacDoor
open Go.RowKit
set_option linter.unusedVariables false
theorem runC_Run : RunC 156 := fun A Am c cm l n e mem W h1 h2 h3 h4 h5 h6 => Run_any A Am c cm l n 0 0 0 e e 63 0 mem 2000 W h1 h2 h3 h4 h5 h6
end Go.Proofs.YtdjamdbamkhblacDoor
namespace Go.Proofs.YtdjamdbamkhblacDoor
open Go.RowKit Go.WideShapes Go.ChangeShapes Go.ChangeAt Go.Deep Go.Joins
section
variable {H : Type} {enc : TypeId × Value → H} {P : Program}
theorem open_four {W : World} {base : Nat} {spare : Nat → Bool} {held : Bool} {t : TypeId} {f0 f1 f2 f3 : Field} {v : Value} {d : DataW H} {p : List MemPlace} {r : Reach} {b0 : Nat}
    (ht : P.underlying t = some (.struct #[f0, f1, f2, f3])) (hone : oneCellFields P #[f0, f1, f2, f3] = true) (hC : P.cellsOf t = 4)
    (h0 : P.underlying f0.type = some (.int .i64)) (h1 : P.underlying f1.type = some (.int .i64)) (h2 : P.underlying f2.type = some (.int .i64)) (h3 : P.underlying f3.type = some (.int .i64))
    (hv : Value.okWide P W r b0 t v) (h : DataW.Trod enc P W base spare held t v d p) :
    ∃ i : Ins, v = .agg #[.int .i64 i.op, .int .i64 i.a, .int .i64 i.b, .int .i64 i.c] ∧ i.wf := by
  obtain ⟨v0, v1, v2, v3, y0, y1, y2, y3, n, rfl, _, _, g0, g1, g2, g3⟩ := open_agg4 ht hone hC hv h
  obtain ⟨n0, e0, _, w0⟩ := DataW.trod_int h0 g0
  obtain ⟨n1, e1, _, w1⟩ := DataW.trod_int h1 g1
  obtain ⟨n2, e2, _, w2⟩ := DataW.trod_int h2 g2
  obtain ⟨n3, e3, _, w3⟩ := DataW.trod_int h3 g3
  simp at e0 e1 e2 e3
  subst e0; subst e1; subst e2; subst e3
  exact ⟨⟨n0, n1, n2, n3⟩, rfl, wf64_of w0, wf64_of w1, wf64_of w2, wf64_of w3⟩
end
end Go.Proofs.YtdjamdbamkhblacDoor
namespace Go.Proofs.YtdjamdbamkhblacDoor
open Go.RowKit Go.WideShapes Go.ChangeShapes Go.ChangeAt Go.Deep

theorem g_shapes : Tryd.prog.globalNamed "curfew/code.shapes" = some 1 := by kernel_rfl
theorem g_shapesType : (Tryd.prog.globals[1]?).map (·.type) = some 120 := by kernel_rfl
theorem cells_shapes : Tryd.prog.cellsOf 120 = 16 := by kernel_rfl
theorem cells_string : Tryd.prog.cellsOf 9 = 1 := by kernel_rfl
def shapesL : List (List UInt8) := [[], [114, 45, 119], [114, 114, 114], [114, 114, 114], [114, 114, 114], [114, 114, 114], [114, 114, 114], [114, 114, 114], [114, 114, 45], [114, 114, 45], [45, 45, 112], [114, 45, 112], [45, 45, 112], [45, 45, 45], [114, 45, 45], [45, 45, 45]]
theorem tab_of_laid {W : World} (h : laidMet Tryd.prog [("curfew/code.shapes", Rows.laid_curfew_code_shapes)] W) : Tab W := by
  have hc : ∀ k : Nat, k < 16 → W.cell? ⟨1, k, none⟩ = some (.string (shp k)) := fun k hk => by
    have hz : shapesL[k]? = some (shp k).data.toList := by
      have : k = 0 ∨ k = 1 ∨ k = 2 ∨ k = 3 ∨ k = 4 ∨ k = 5 ∨ k = 6 ∨ k = 7 ∨ k = 8 ∨ k = 9 ∨ k = 10 ∨ k = 11 ∨ k = 12 ∨ k = 13 ∨ k = 14 ∨ k = 15 := by omega
      rcases this with h | h | h | h | h | h | h | h | h | h | h | h | h | h | h | h <;> subst h <;> rfl
    exact strs_of_head g_shapes g_shapesType Tryd.underlying120 Tryd.underlying9 cells_string cells_shapes (zs := shapesL) h k _ hz
  exact ⟨World.block_lt_of_cell? W _ (hc 0 (by omega)), hc⟩

/-- A world for the witness: the settled one, the table holding what its initialiser lays. -/
noncomputable def laidWorld (os : Os) : World :=
  { World.holding Tryd.prog os ⟨#[], #[], []⟩ with heap := (World.holding Tryd.prog os ⟨#[], #[], []⟩).heap.modify 1 fun
      | .cells _ t frozen => .cells (shapesL.map fun z => Value.string ⟨z.toArray⟩).toArray t frozen
      | o => o }
end Go.Proofs.YtdjamdbamkhblacDoor
