/- The walks of safe.plain and of its reference: may code be made such? No condition. -/
import Derived.Test.YtdjamdbamkhblabDoorMadeOk
import Derived.Test.YtdjamdbamkhblabDoorIdxIns
namespace Go.Proofs.YtdjamdbamkhblabDoor
open Go.RowKit

theorem Below.one' (w : World) (o : Obj) : Below w.heap.size w (w.alloc o) := (Below.refl _ _).alloc (Nat.le_refl _) o
def plainB (l : List Ins) : Bool := lastOk l && !(l.any (unplainB l.length))

set_option maxHeartbeats 400000 in
theorem odd_any (n : Int) (w : World) : Calls Tryd.prog 87 #[.int .i64 n] w fun e w' => e = .returned (.bool (oddB n)) ∧ w = w' := by
  go_enter Tryd.func87, Tryd.ntmps87
  go_wp2
  all_goals go_ret
  all_goals refine ⟨ret_bool ?_, rfl⟩
  all_goals (rw [Bool.eq_iff_iff]; simp [oddB]; omega)

theorem unplain_form (n : Nat) (i : Ins) : unplainB n i = (oddB i.a || oddB i.b || ((decide (2 ≤ i.op) && decide (i.op ≤ 7)) && oddB i.c) || (((i.op == 10) || (i.op == 11) || (i.op == 12)) && decide ((n : Int) ≤ i.c))) := by
  rw [Bool.eq_iff_iff]
  simp [unplainB, jmpB, or_assoc]

set_option maxHeartbeats 4000000 in
theorem plain1_any (x : Ins) (b n c : Nat) (A : Option Addr) (w : World) (hb : b < w.heap.size) (hc : w.cell? ⟨b, 0, none⟩ = some (.slice A n c)) (hn : n ≤ maxLen) :
    Calls Tryd.prog 86 #[.agg #[.int .i64 x.op, .int .i64 x.a, .int .i64 x.b, .int .i64 x.c], .pointer (some ⟨b, 0, none⟩)] w fun e w' => e = .returned (.bool (unplainB n x)) ∧ Below w.heap.size w w' := by
  have HF := Lib.hid (unplain_form n x)
  have HN := Lib.hid hn
  unfold maxLen at hn
  obtain ⟨o, y, z, u⟩ := x
  simp only at HF ⊢
  have hz : w.heap.size ≤ (w.alloc (.cells #[.int .i64 o, .int .i64 y, .int .i64 z, .int .i64 u] 45)).heap.size := by simp
  have HB := Lib.hid (Below.one' w (.cells #[.int .i64 o, .int .i64 y, .int .i64 z, .int .i64 u] 45))
  clear hz
  cases h1 : oddB y with
  | true =>
    go_enter Tryd.func86, Tryd.ntmps86
    go_wp2_with (first | (go_at_call 87; refine (odd_any _ _).mono ?_; rintro e w' ⟨rfl, rfl⟩))
    all_goals (go_ret; exact ⟨ret_bool (by rw [unplain_form]; simp [h1]), Below.one' _ _⟩)
  | false =>
    cases h2 : oddB z with
    | true =>
      go_enter Tryd.func86, Tryd.ntmps86
      go_wp2_with (first | (go_at_call 87; refine (odd_any _ _).mono ?_; rintro e w' ⟨rfl, rfl⟩))
      all_goals (go_ret; exact ⟨ret_bool (by rw [unplain_form]; simp [h1, h2]), Below.one' _ _⟩)
    | false =>
      cases h3 : oddB u with
      | true =>
        go_enter Tryd.func86, Tryd.ntmps86
        go_wp2_with (first | (go_at_call 87; refine (odd_any _ _).mono ?_; rintro e w' ⟨rfl, rfl⟩))
        all_goals go_ret
        all_goals refine ⟨ret_bool ?_, Below.one' _ _⟩
        all_goals rw [unplain_form]
        all_goals simp [*]
        all_goals omega
      | false =>
        go_enter Tryd.func86, Tryd.ntmps86
        go_wp2_with (first | (go_at_call 87; refine (odd_any _ _).mono ?_; rintro e w' ⟨rfl, rfl⟩))
        all_goals go_ret
        all_goals refine ⟨ret_bool ?_, Below.one' _ _⟩
        all_goals rw [unplain_form]
        all_goals simp [*]
        all_goals omega
end Go.Proofs.YtdjamdbamkhblabDoor
