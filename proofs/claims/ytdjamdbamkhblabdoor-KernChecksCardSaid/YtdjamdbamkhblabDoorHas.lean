/- The walks of kern.has and of the reference's HasEnd: has any process such an end? -/
import Derived.Test.YtdjamdbamkhblabDoorKernP
import Derived.Test.YtdjamdbamkhblabDoorIdxOpn
import Derived.Test.YtdjamdbamkhblabDoorIdxPrc
import Derived.Test.YtdjamdbamkhblabDoorBlk
namespace Go.Proofs.YtdjamdbamkhblabDoor
open Go.RowKit
set_option linter.unusedVariables false
set_option linter.unusedSimpArgs false

theorem below_box (w : World) (o : Obj) : Below w.heap.size w (w.alloc o) := (Below.refl _ _).alloc (Nat.le_refl _) o
theorem has11_enter : ∀ args w, (callFunc 97 args).run Tryd.prog w = .ok (.enter 97 args) w := fun args w => by
  simp only [callFunc, run_program, Sem.run_bind, Result.andThen_ok, Tryd.func97]
  rfl
theorem has1_enter : ∀ args w, (callFunc 96 args).run Tryd.prog w = .ok (.enter 96 args) w := fun args w => by
  simp only [callFunc, run_program, Sem.run_bind, Result.andThen_ok, Tryd.func96]
  rfl
set_option maxHeartbeats 400000 in
theorem has11_any (x : Opn) (b1 b2 : Nat) (kind pl : Int) (w : World) (h1 : b1 < w.heap.size) (h2 : b2 < w.heap.size) (c1 : w.cell? ⟨b1, 0, none⟩ = some (.int .i64 kind)) (c2 : w.cell? ⟨b2, 0, none⟩ = some (.int .i64 pl)) :
    Calls Tryd.prog 97 #[.agg #[.int .i64 x.kind, .int .i64 x.node, .int .i64 x.pos], .pointer (some ⟨b1, 0, none⟩), .pointer (some ⟨b2, 0, none⟩)] w fun e w' => e = .returned (.bool ((x.kind == kind) && (x.node == pl))) ∧ Below w.heap.size w w' := by
  cases hk : (x.kind == kind)
  all_goals
    go_enter Tryd.func97, Tryd.ntmps97
    go_wp2
    go_ret
    exact ⟨ret_bool (by simp), below_box w _⟩
set_option maxHeartbeats 400000 in
theorem has1_any (x : Prc) (A : Option Addr) (c : Nat) (b1 b2 : Nat) (kind pl : Int) (w : World) (hA : PrcAt w w.heap.size A c x) (h1 : b1 < w.heap.size) (h2 : b2 < w.heap.size) (c1 : w.cell? ⟨b1, 0, none⟩ = some (.int .i64 kind)) (c2 : w.cell? ⟨b2, 0, none⟩ = some (.int .i64 pl)) :
    Calls Tryd.prog 96 #[.agg #[.bool x.live, .slice A x.ends.length c], .pointer (some ⟨b1, 0, none⟩), .pointer (some ⟨b2, 0, none⟩)] w fun e w' => e = .returned (.bool (hasP kind pl x)) ∧ Below w.heap.size w w' := by
  have hb := below_box w (.cells #[.bool x.live, .slice A x.ends.length c] 101)
  have HA := Lib.hid ((hA.ends.below hb).more hb.size)
  have HL := Lib.hid (show x.ends.length ≤ maxLen by have := hA.el; unfold maxLen; omega)
  have C1 := Lib.hid (show ∀ w2, Below (w.alloc (.cells #[.bool x.live, .slice A x.ends.length c] 101)).heap.size (w.alloc (.cells #[.bool x.live, .slice A x.ends.length c] 101)) w2 → b1 < w2.heap.size ∧ b2 < w2.heap.size ∧ w2.cell? ⟨b1, 0, none⟩ = some (.int .i64 kind) ∧ w2.cell? ⟨b2, 0, none⟩ = some (.int .i64 pl) from fun w2 h => by
    have h3 := hb.trans (h.mono hb.size)
    exact ⟨Nat.lt_of_lt_of_le h1 h3.size, Nat.lt_of_lt_of_le h2 h3.size, (h3.cell (p := ⟨b1, 0, none⟩) h1).trans c1, (h3.cell (p := ⟨b2, 0, none⟩) h2).trans c2⟩)
  clear hA
  go_enter Tryd.func96, Tryd.ntmps96
  go_wp2_with fail
  refine (ContainsFunc_opn 97 #[.pointer (some ⟨b1, 0, none⟩), .pointer (some ⟨b2, 0, none⟩)] (fun y => (y.kind == kind) && (y.node == pl)) A c x.ends _ HA.out HL.out has11_enter (fun y _ w2 hw2 => ?_)).mono ?_
  · obtain ⟨q1, q2, q3, q4⟩ := C1.out w2 hw2
    exact has11_any y b1 b2 kind pl w2 q1 q2 q3 q4
  rintro e w1 ⟨rfl, hb1⟩
  go_wp2
  go_ret
  exact ⟨rfl, hb.trans (hb1.mono hb.size)⟩
set_option maxHeartbeats 1000000 in
theorem has_any (V0 V1 V2 V3 : Value) (A : Option Addr) (c : Nat) (ps : List Prc) (kind pl : Int) (w : World) (hr : RdP w w.heap.size A ps) (hl : ps.length ≤ maxLen) :
    Calls Tryd.prog 64 #[.agg #[V0, V1, V2, V3, .slice A ps.length c], .int .i64 kind, .int .i64 pl] w fun e w' => e = .returned (.bool (hasE ps kind pl)) ∧ Below w.heap.size w w' := by
  have hb1 := below_box w (.cells #[V0, V1, V2, V3, .slice A ps.length c] 60)
  have hb2 := hb1.alloc hb1.size (.cells #[.int .i64 kind] 3)
  have hb3 := hb2.alloc hb2.size (.cells #[.int .i64 pl] 3)
  have HR := Lib.hid ((hr.below hb3).more hb3.size)
  have HL := Lib.hid hl
  have HB := Lib.hid hb3
  have C1 := Lib.hid (show ∀ w2, Below (((w.alloc (.cells #[V0, V1, V2, V3, .slice A ps.length c] 60)).alloc (.cells #[.int .i64 kind] 3)).alloc (.cells #[.int .i64 pl] 3)).heap.size (((w.alloc (.cells #[V0, V1, V2, V3, .slice A ps.length c] 60)).alloc (.cells #[.int .i64 kind] 3)).alloc (.cells #[.int .i64 pl] 3)) w2 → w.heap.size + 1 < w2.heap.size ∧ w.heap.size + 1 + 1 < w2.heap.size ∧ w2.cell? ⟨w.heap.size + 1, 0, none⟩ = some (.int .i64 kind) ∧ w2.cell? ⟨w.heap.size + 1 + 1, 0, none⟩ = some (.int .i64 pl) from fun w2 h => by
    have hs := h.size
    have N1 : Blk ((w.alloc (.cells #[V0, V1, V2, V3, .slice A ps.length c] 60)).alloc (.cells #[.int .i64 kind] 3)) (w.heap.size + 1) 3 #[.int .i64 kind] := Blk.new' (by simp)
    have N2 : Blk (((w.alloc (.cells #[V0, V1, V2, V3, .slice A ps.length c] 60)).alloc (.cells #[.int .i64 kind] 3)).alloc (.cells #[.int .i64 pl] 3)) (w.heap.size + 1 + 1) 3 #[.int .i64 pl] := Blk.new' (by simp)
    simp at hs
    exact ⟨by omega, by omega, ((N1.alloc _).below h (N1.alloc _).lt).cell 0, (N2.below h N2.lt).cell 0⟩)
  clear hr hl hb1 hb2 hb3
  go_enter Tryd.func64, Tryd.ntmps64
  go_wp2_with fail
  refine (ContainsFunc_prc 96 #[.pointer (some ⟨w.heap.size + 1, 0, none⟩), .pointer (some ⟨w.heap.size + 1 + 1, 0, none⟩)] (hasP kind pl) A c ps _ HR.out HL.out has1_enter (fun y _ w2 A1 c1 hw2 hz => ?_)).mono ?_
  · obtain ⟨q1, q2, q3, q4⟩ := C1.out w2 hw2
    exact has1_any y A1 c1 _ _ kind pl w2 hz q1 q2 q3 q4
  rintro e w1 ⟨rfl, hb1⟩
  go_wp2
  go_ret
  exact ⟨rfl, HB.out.trans (hb1.mono HB.out.size)⟩
end Go.Proofs.YtdjamdbamkhblabDoor
