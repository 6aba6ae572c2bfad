/- The walk of kern.Check: what it answers, for every kernel. Condition: the listed tables. -/
import Derived.Test.YtdjamdbamkhblabDoorNodeEnd
import Derived.Test.YtdjamdbamkhblabDoorIdxMod
import Derived.Test.YtdjamdbamkhblabDoorIdxNod
import Derived.Test.YtdjamdbamkhblabDoorIdxInt
namespace Go.Proofs.YtdjamdbamkhblabDoor
open Go.RowKit
set_option linter.unusedVariables false
set_option linter.unusedSimpArgs false

theorem bs_l (a b : ByteArray) : (a.toList == b.toList) = (a == b) := by
  obtain ⟨⟨x⟩⟩ := a
  obtain ⟨⟨y⟩⟩ := b
  rw [show (⟨⟨x⟩⟩ : ByteArray).toList = x from ByteArray.toList_mk x, show (⟨⟨y⟩⟩ : ByteArray).toList = y from ByteArray.toList_mk y]
  show (x == y) = ((⟨x⟩ : Array UInt8) == ⟨y⟩)
  simp
theorem RdM.take {w : World} {B : Nat} {A : Option Addr} {l : List Mod} (h : RdM w B A l) (n : Nat) : RdM w B A (l.take n) := fun hl => by
  obtain ⟨b, o, e, hb, hc⟩ := h (by rw [List.length_take] at hl; omega)
  refine ⟨b, o, e, hb, fun k hk => ?_⟩
  have := hc k (by rw [List.length_take] at hk; omega)
  rw [List.getElem_take]
  exact this
theorem RdD.take {w : World} {B : Nat} {A : Option Addr} {l : List Nod} (h : RdD w B A l) (n : Nat) : RdD w B A (l.take n) := fun hl => by
  obtain ⟨b, o, e, hb, hc⟩ := h (by rw [List.length_take] at hl; omega)
  refine ⟨b, o, e, hb, fun k hk => ?_⟩
  have := hc k (by rw [List.length_take] at hk; omega)
  rw [List.getElem_take]
  exact this
/-- Names, data and pipes that fit. -/
structure Krn.small (k : Krn) : Prop where
  nodes : ∀ x ∈ k.nodes, x.name.size ≤ maxLen ∧ x.data.size ≤ maxLen
  pipes : ∀ s ∈ k.pipes, s.size ≤ maxLen
theorem Blk.c5 {w : World} {g : Nat} {t : TypeId} {u0 u1 u2 u3 u4 : Value} (h : Blk w g t #[u0, u1, u2, u3, u4]) : w.cell? ⟨g, 0, none⟩ = some u0 ∧ w.cell? ⟨g, 1, none⟩ = some u1 ∧ w.cell? ⟨g, 2, none⟩ = some u2 ∧ w.cell? ⟨g, 3, none⟩ = some u3 ∧ w.cell? ⟨g, 4, none⟩ = some u4 := ⟨h.cell 0, h.cell 1, h.cell 2, h.cell 3, h.cell 4⟩
theorem Blk.c4 {w : World} {g : Nat} {t : TypeId} {u0 u1 u2 u3 : Value} (h : Blk w g t #[u0, u1, u2, u3]) : w.cell? ⟨g, 0, none⟩ = some u0 ∧ w.cell? ⟨g, 1, none⟩ = some u1 ∧ w.cell? ⟨g, 2, none⟩ = some u2 ∧ w.cell? ⟨g, 3, none⟩ = some u3 := ⟨h.cell 0, h.cell 1, h.cell 2, h.cell 3⟩
theorem nodBad_of {k : Krn} {i : Nat} {x : Nod} (h1 : nodOk k.mods.length x = false) : nodBad k i x = true := by unfold nodBad; rw [h1]; rfl
theorem nodBad_named {k : Krn} {i : Nat} {x : Nod} (h1 : nodOk k.mods.length x = true) (h2 : empS x.name = false) : nodBad k i x = (!nameOk x.name || (x.kind == 0) || dupN (k.nodes.take i) x.name) := by unfold nodBad; rw [h1, h2]; simp
theorem nodBad_bare {k : Krn} {i : Nat} {x : Nod} (h1 : nodOk k.mods.length x = true) (h2 : empS x.name = true) : nodBad k i x = ((x.kind != 0) && !hasE k.procs 1 i) := by unfold nodBad; rw [h1, h2]; simp
theorem modsE_drop {l : List Mod} {n : Nat} (h : n < l.length) : modsE (l.take n) (l.drop n) = if modCheck l[n] = 0 then (if (l.take n).any (fun x => x.name == l[n].name) then 7 else modsE (l.take (n + 1)) (l.drop (n + 1))) else modCheck l[n] := by
  rw [List.drop_eq_getElem_cons h, modsE, List.take_succ_eq_append_getElem h]
theorem anyI_drop {α : Type} {p : Nat → α → Bool} {l : List α} {n : Nat} (h : n < l.length) : anyI p (l.drop n) n = (p n l[n] || anyI p (l.drop (n + 1)) (n + 1)) := by
  rw [List.drop_eq_getElem_cons h, anyI]
theorem KCheck1_enter : ∀ args w, (callFunc 58 args).run Tryd.prog w = .ok (.enter 58 args) w := fun args w => by
  simp only [callFunc, run_program, Sem.run_bind, Result.andThen_ok, Tryd.func58]
  rfl
theorem KCheck2_enter : ∀ args w, (callFunc 59 args).run Tryd.prog w = .ok (.enter 59 args) w := fun args w => by
  simp only [callFunc, run_program, Sem.run_bind, Result.andThen_ok, Tryd.func59]
  rfl
theorem KCheck3_enter : ∀ args w, (callFunc 63 args).run Tryd.prog w = .ok (.enter 63 args) w := fun args w => by
  simp only [callFunc, run_program, Sem.run_bind, Result.andThen_ok, Tryd.func63]
  rfl
theorem KCheck4_enter : ∀ args w, (callFunc 66 args).run Tryd.prog w = .ok (.enter 66 args) w := fun args w => by
  simp only [callFunc, run_program, Sem.run_bind, Result.andThen_ok, Tryd.func66]
  rfl
set_option maxHeartbeats 400000 in
theorem KCheck1_any (n : ByteArray) (V1 V2 : Value) (b : Nat) (s : ByteArray) (w : World) (h1 : b < w.heap.size) (c1 : w.cell? ⟨b, 0, none⟩ = some (.string s)) :
    Calls Tryd.prog 58 #[.agg #[.string n, V1, V2], .pointer (some ⟨b, 0, none⟩)] w fun e w' => e = .returned (.bool (n == s)) ∧ Below w.heap.size w w' := by
  go_enter Tryd.func58, Tryd.ntmps58
  go_wp2
  go_ret
  exact ⟨ret_bool (bs_l _ _), below_box w _⟩
set_option maxHeartbeats 400000 in
theorem KCheck2_any (n : Int) (w : World) :
    Calls Tryd.prog 59 #[.int .i64 n] w fun e w' => e = .returned (.bool (oddW n)) ∧ w = w' := by
  go_enter Tryd.func59, Tryd.ntmps59
  go_wp2
  all_goals go_ret
  all_goals refine ⟨ret_bool ?_, rfl⟩
  all_goals (rw [Bool.eq_iff_iff]; simp [oddW]; try omega)
set_option maxHeartbeats 400000 in
theorem KCheck3_any (n : ByteArray) (V1 V2 V3 : Value) (b : Nat) (s : ByteArray) (w : World) (h1 : b < w.heap.size) (c1 : w.cell? ⟨b, 0, none⟩ = some (.string s)) :
    Calls Tryd.prog 63 #[.agg #[.string n, V1, V2, V3], .pointer (some ⟨b, 0, none⟩)] w fun e w' => e = .returned (.bool (n == s)) ∧ Below w.heap.size w w' := by
  go_enter Tryd.func63, Tryd.ntmps63
  go_wp2
  go_ret
  exact ⟨ret_bool (bs_l _ _), below_box w _⟩
set_option maxHeartbeats 400000 in
theorem KCheck4_any (k : Krn) (x : Opn) (V0 V1 V3 V4 VE : Value) (A : Option Addr) (c : Nat) (b1 b2 : Nat) (lv : Bool) (w : World) (h1 : b1 < w.heap.size) (h2 : b2 < w.heap.size)
    (c0 : w.cell? ⟨b1, 0, none⟩ = some V0) (c1 : w.cell? ⟨b1, 1, none⟩ = some V1) (c2 : w.cell? ⟨b1, 2, none⟩ = some (.slice A k.nodes.length c)) (c3 : w.cell? ⟨b1, 3, none⟩ = some V3) (c4 : w.cell? ⟨b1, 4, none⟩ = some V4)
    (d0 : w.cell? ⟨b2, 0, none⟩ = some (.bool lv)) (hr : RdD w w.heap.size A k.nodes) (hl : k.nodes.length = 8) :
    Calls Tryd.prog 66 #[.agg #[.int .i64 x.kind, .int .i64 x.node, .int .i64 x.pos], .pointer (some ⟨b1, 0, none⟩), .pointer (some ⟨b2, 0, none⟩)] w fun e w' => e = .returned (.bool (!endOk k x || (!lv && (x.kind != 0)))) ∧ Below w.heap.size w w' := by
  have hb := below_box w (.cells #[.int .i64 x.kind, .int .i64 x.node, .int .i64 x.pos] 104)
  have HE := Lib.hid (end_any V0 V1 V3 V4 A c k x (w.alloc (.cells #[.int .i64 x.kind, .int .i64 x.node, .int .i64 x.pos] 104)) ((hr.below hb).more hb.size) hl)
  clear hr hl
  cases he : endOk k x with
  | false =>
    rw [he] at HE
    have H := Lib.hid he
    clear he
    go_enter Tryd.func66, Tryd.ntmps66
    go_wp2_with fail
    refine HE.out.mono ?_
    rintro e w1 ⟨rfl, hb1⟩
    go_wp2
    go_ret
    exact ⟨ret_bool (by simp), hb.trans (hb1.mono hb.size)⟩
  | true =>
    rw [he] at HE
    have H := Lib.hid he
    clear he
    cases lv
    all_goals
      go_enter Tryd.func66, Tryd.ntmps66
      go_wp2_with fail
      refine HE.out.mono ?_
      rintro e w1 ⟨rfl, hb1⟩
      obtain ⟨hc1, hf1⟩ := bcell hb1
      have hbw := hb.trans (hb1.mono hb.size)
      have hz1 : w.heap.size < w1.heap.size := Nat.lt_of_lt_of_le (by simp) hb1.size
      have e0 := (hbw.cell (p := ⟨b2, 0, none⟩) h2).trans d0
      go_wp2
      all_goals go_ret
      all_goals exact ⟨ret_bool (by simp), hbw⟩
end Go.Proofs.YtdjamdbamkhblabDoor
