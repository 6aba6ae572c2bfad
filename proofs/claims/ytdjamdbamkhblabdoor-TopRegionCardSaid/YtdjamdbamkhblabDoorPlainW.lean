/- The walks of safe.plain and of its reference. -/
import Derived.Test.YtdjamdbamkhblabDoorPlain
namespace Go.Proofs.YtdjamdbamkhblabDoor
open Go.RowKit

theorem plain1_enter : ∀ args w, (callFunc 86 args).run Tryd.prog w = .ok (.enter 86 args) w := fun args w => by
  simp only [callFunc, run_program, Sem.run_bind, Result.andThen_ok, Tryd.func86]
  rfl
theorem lastOk_nil {l : List Ins} (h : l.length = 0) : lastOk l = false := by rw [List.eq_nil_of_length_eq_zero h]; rfl
theorem lastOk_pos {l : List Ins} (h : 0 < l.length) : lastOk l = endB l[l.length - 1] := by
  unfold lastOk
  rw [List.getLast?_eq_getElem?, List.getElem?_eq_getElem (by omega)]

set_option maxHeartbeats 1000000 in
theorem Plain_any (A : Option Addr) (c : Nat) (l : List Ins) (w : World) (hr : RdI w w.heap.size A l) (hl : l.length ≤ maxLen) :
    Calls Tryd.prog 44 #[.slice A l.length c] w fun e w' => e = .returned (.bool (plainB l)) ∧ Below w.heap.size w w' := by
  have HL := Lib.hid hl
  unfold maxLen at hl
  by_cases hn0 : l.length = 0
  · have hn1 : ((l.length : Int) == 0) = true := by simp [hn0]
    have HN := Lib.hid hn0
    clear hn0
    go_enter Tryd.func44, Tryd.ntmps44
    go_wp2
    go_ret
    exact ⟨ret_bool (by rw [plainB, lastOk_nil HN.out]; rfl), Below.one' _ _⟩
  · have hn1 : ((l.length : Int) == 0) = false := by rw [beq_eq_false_iff_ne]; omega
    have hr0 := hr
    obtain ⟨b, o, rfl, hbB, hcell⟩ := hr (by omega)
    have hp0 : 0 < l.length := by omega
    have hp1 : l.length - 1 < l.length := by omega
    obtain ⟨c0, c1, c2, c3⟩ := hcell (l.length - 1) hp1
    have HE := Lib.hid (lastOk_pos hp0)
    have hb1 := Below.one' w (.cells #[.slice (some ⟨b, o, none⟩) l.length c] 25)
    have HR := Lib.hid ((hr0.below hb1).more hb1.size)
    clear hr hr0 hcell hn0
    cases hlast : endB l[l.length - 1] with
    | false =>
      have hend : endB ⟨l[l.length - 1].op, l[l.length - 1].a, l[l.length - 1].b, l[l.length - 1].c⟩ = false := hlast
      have HX := Lib.hid hlast
      clear hlast
      go_enter Tryd.func44, Tryd.ntmps44
      go_wp2_with (go_at_call 45; refine (ends_any _ _ _ _ _).mono ?_; rintro e w2 ⟨rfl, rfl⟩)
      go_ret
      exact ⟨ret_bool (by rw [plainB, HE.out, HX.out]; rfl), hb1.alloc hb1.size _⟩
    | true =>
      have hend : endB ⟨l[l.length - 1].op, l[l.length - 1].a, l[l.length - 1].b, l[l.length - 1].c⟩ = true := hlast
      have HX := Lib.hid hlast
      clear hlast
      go_enter Tryd.func44, Tryd.ntmps44
      go_wp2_with (go_at_call 45; refine (ends_any _ _ _ _ _).mono ?_; rintro e w2 ⟨rfl, rfl⟩)
      have hb2 := hb1.alloc hb1.size (.cells #[.int .i64 l[l.length - 1].op, .int .i64 l[l.length - 1].a, .int .i64 l[l.length - 1].b, .int .i64 l[l.length - 1].c] 45)
      refine (ContainsFunc_ins 86 #[.pointer (some ⟨w.heap.size, 0, none⟩)] (unplainB l.length) (some ⟨b, o, none⟩) c l _ ((HR.out.below (Below.one' _ _)).more (Below.one' _ _).size) HL.out plain1_enter (fun x _ w2 hw2 => ?_)).mono ?_
      · refine plain1_any x w.heap.size l.length c (some ⟨b, o, none⟩) w2 (Nat.lt_of_lt_of_le (by simp; omega) hw2.size) ((hw2.cell (p := ⟨w.heap.size, 0, none⟩) (by simp; omega)).trans (by simp)) HL.out
      rintro e w3 ⟨rfl, hb3⟩
      go_wp2
      go_ret
      exact ⟨ret_bool (by rw [plainB, HE.out, HX.out, Bool.true_and]), hb2.trans (hb3.mono hb2.size)⟩

end Go.Proofs.YtdjamdbamkhblabDoor
