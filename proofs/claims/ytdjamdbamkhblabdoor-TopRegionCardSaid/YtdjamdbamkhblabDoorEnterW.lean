/- The walk of safe.Enter: what it returns, for every region and word. -/
import Derived.Test.YtdjamdbamkhblabDoorBase
namespace Go.Proofs.YtdjamdbamkhblabDoor
open Go.RowKit

def entBad (r x : Int) : Bool := decide (r < 0 ∨ 15 < r ∨ x < 0 ∨ 65535 < x)
def regsV (a b c d e f g h : Int) : Value := .agg #[.int .i64 a, .int .i64 b, .int .i64 c, .int .i64 d, .int .i64 e, .int .i64 f, .int .i64 g, .int .i64 h]
def entV (r x : Int) : Value := .tuple #[if entBad r x then regsV 0 0 0 0 0 0 0 0 else regsV x 0 0 0 (r * 64) (r * 64) 63 0, .int .i64 (if entBad r x then 2 else 0)]

set_option maxHeartbeats 1000000 in
theorem Enter_any (r x : Int) (w : World) :
    Calls Tryd.prog 15 #[.int .i64 r, .int .i64 x] w fun e w' => e = .returned (entV r x) ∧ Below w.heap.size w w' := by
  cases hb : entBad r x with
  | true =>
    have HB := Lib.hid hb
    have h : r < 0 ∨ 15 < r ∨ x < 0 ∨ 65535 < x := by simpa [entBad] using hb
    clear hb
    have hv : Hid (entV r x = .tuple #[regsV 0 0 0 0 0 0 0 0, .int .i64 2]) := by show _ = _; simp [entV, HB.out]
    clear HB
    have FIN : Hid (∀ w' : World, Below w.heap.size w w' → (Ending.returned (.tuple #[.agg #[.int .i64 0, .int .i64 0, .int .i64 0, .int .i64 0, .int .i64 0, .int .i64 0, .int .i64 0, .int .i64 0], .int .i64 2]) = .returned (entV r x) ∧ Below w.heap.size w w')) := fun w' h => ⟨by rw [hv.out]; rfl, h⟩
    clear hv
    by_cases h1 : r < 0
    · clear h
      go_enter Tryd.func15, Tryd.ntmps15
      go_wp2
      refine bodyPost_ret (v := .tuple #[.agg #[.int .i64 0, .int .i64 0, .int .i64 0, .int .i64 0, .int .i64 0, .int .i64 0, .int .i64 0, .int .i64 0], .int .i64 2]) (by simp [results, Tryd.results15, go_sem]) rfl (FIN.out _ ?_)
      exact (Below.refl _ _).alloc (Nat.le_refl _) _
    · skip
      by_cases h2 : 15 < r
      · clear h
        go_enter Tryd.func15, Tryd.ntmps15
        go_wp2
        refine bodyPost_ret (v := .tuple #[.agg #[.int .i64 0, .int .i64 0, .int .i64 0, .int .i64 0, .int .i64 0, .int .i64 0, .int .i64 0, .int .i64 0], .int .i64 2]) (by simp [results, Tryd.results15, go_sem]) rfl (FIN.out _ ?_)
        exact (Below.refl _ _).alloc (Nat.le_refl _) _
      · skip
        by_cases h3 : x < 0
        · clear h
          go_enter Tryd.func15, Tryd.ntmps15
          go_wp2
          refine bodyPost_ret (v := .tuple #[.agg #[.int .i64 0, .int .i64 0, .int .i64 0, .int .i64 0, .int .i64 0, .int .i64 0, .int .i64 0, .int .i64 0], .int .i64 2]) (by simp [results, Tryd.results15, go_sem]) rfl (FIN.out _ ?_)
          exact (Below.refl _ _).alloc (Nat.le_refl _) _
        · have h4 : 65535 < x := by omega
          clear h
          go_enter Tryd.func15, Tryd.ntmps15
          go_wp2
          refine bodyPost_ret (v := .tuple #[.agg #[.int .i64 0, .int .i64 0, .int .i64 0, .int .i64 0, .int .i64 0, .int .i64 0, .int .i64 0, .int .i64 0], .int .i64 2]) (by simp [results, Tryd.results15, go_sem]) rfl (FIN.out _ ?_)
          exact (Below.refl _ _).alloc (Nat.le_refl _) _
  | false =>
    have HB := Lib.hid hb
    have h : ¬ (r < 0 ∨ 15 < r ∨ x < 0 ∨ 65535 < x) := by simpa [entBad] using hb
    have h1 : 0 ≤ r := by omega
    have h2 : r ≤ 15 := by omega
    have h3 : 0 ≤ x := by omega
    have h4 : x ≤ 65535 := by omega
    clear hb h
    have hv : Hid (entV r x = .tuple #[regsV x 0 0 0 (r * 64) (r * 64) 63 0, .int .i64 0]) := by show _ = _; simp [entV, HB.out]
    clear HB
    have FIN : Hid (∀ w' : World, Below w.heap.size w w' → (Ending.returned (.tuple #[.agg #[.int .i64 x, .int .i64 0, .int .i64 0, .int .i64 0, .int .i64 (r * 64), .int .i64 (r * 64), .int .i64 63, .int .i64 0], .int .i64 0]) = .returned (entV r x) ∧ Below w.heap.size w w')) := fun w' h => ⟨by rw [hv.out]; rfl, h⟩
    clear hv
    go_enter Tryd.func15, Tryd.ntmps15
    go_wp2
    refine bodyPost_ret (v := .tuple #[.agg #[.int .i64 x, .int .i64 0, .int .i64 0, .int .i64 0, .int .i64 (r * 64), .int .i64 (r * 64), .int .i64 63, .int .i64 0], .int .i64 0]) (by simp [results, Tryd.results15, go_sem]) rfl (FIN.out _ ?_)
    exact (Below.refl _ _).alloc (Nat.le_refl _) _

end Go.Proofs.YtdjamdbamkhblabDoor
