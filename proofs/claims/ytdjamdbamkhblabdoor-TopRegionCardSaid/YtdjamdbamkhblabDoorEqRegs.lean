/- '==' on two arrays of eight integers. -/
import Derived.Test.YtdjamdbamkhblabDoorBase
import Derived.ChangeKeysEq
namespace Go.Proofs.YtdjamdbamkhblabDoor
theorem einfo_int : (Tryd.prog.info? 3).isSome = true := by kernel_rfl
theorem cells1_int : Tryd.prog.cellsOf 3 = 1 := by kernel_rfl
theorem eql_regs (W : World) (a b c d e f g h : Int) (a' b' c' d' e' f' g' h' : Int) : (binOp .eql 28 (.agg #[.int .i64 a, .int .i64 b, .int .i64 c, .int .i64 d, .int .i64 e, .int .i64 f, .int .i64 g, .int .i64 h]) (.agg #[.int .i64 a', .int .i64 b', .int .i64 c', .int .i64 d', .int .i64 e', .int .i64 f', .int .i64 g', .int .i64 h'])).run Tryd.prog W = .ok (.bool (decide (a = a' ∧ b = b' ∧ c = c' ∧ d = d' ∧ e = e' ∧ f = f' ∧ g = g' ∧ h = h'))) W := by
  obtain ⟨i, hi⟩ := Option.isSome_iff_exists.1 einfo_int
  rw [run_eql_struct, run_equalIn_array W 9999 _ _ Tryd.underlying28 hi]
  have hr : List.range 8 = [0, 1, 2, 3, 4, 5, 6, 7] := rfl
  rw [hr, cells1_int]
  first
    | (simp [Op.eqItems, part, go_sem]; (repeat' split); all_goals simp_all; done)
    | (simp [Op.eqItems, part, go_sem, run_equalIn_int W _ _ _ _ _ _ Tryd.underlying3]; (repeat' split); all_goals simp_all)
end Go.Proofs.YtdjamdbamkhblabDoor
