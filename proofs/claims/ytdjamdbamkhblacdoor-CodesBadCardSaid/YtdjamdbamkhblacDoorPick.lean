/- The walk of picked: no condition but that the number is one of 64 bits. -/
import Derived.Test.YtdjamdbamkhblacDoorBase
namespace Go.Proofs.YtdjamdbamkhblacDoor
open Go.RowKit

/-- A number from 0 to m - 1. -/
def pick (n : Int) (m : Nat) : Nat := (if n < 0 then -(n + 1) else n).toNat % m
theorem pick_lt (n : Int) {m : Nat} (h : 0 < m) : pick n m < m := Nat.mod_lt _ h
set_option maxHeartbeats 400000 in
theorem picked_any (n : Int) (m : Nat) (w : World) (h1 : -9223372036854775808 ≤ n) (h2 : n ≤ 9223372036854775807) (hm : 0 < m) (hm2 : (m : Int) ≤ 9223372036854775807) :
    Calls Tryd.prog 13 #[.int .i64 n, .int .i64 (m : Int)] w fun e w' => e = .returned (.int .i64 (pick n m : Nat)) ∧ w = w' := by
  have hm0 : ¬ (m : Int) = 0 := by omega
  have hm1 : (0 : Int) < (m : Int) := by omega
  have hm3 : ((m : Int) == 0) = false := by rw [beq_eq_false_iff_ne]; exact hm0
  by_cases hn : n < 0
  · have hn2 : 0 ≤ -(n + 1) := by omega
    have HP : Hid ((pick n m : Nat) = ((-(n + 1)) % (m : Int))) := by
      show ((pick n m : Nat) : Int) = _
      unfold pick
      rw [if_pos hn, Int.natCast_emod, Int.toNat_of_nonneg hn2]
    go_enter Tryd.func13, Tryd.ntmps13
    go_wp2
    go_ret
    refine ⟨ret_int ?_, rfl⟩
    rw [← Int.neg_tmod, Int.tmod_eq_emod_of_nonneg hn2]
    exact HP.out.symm
  · have hn1 : 0 ≤ n := by omega
    have HP : Hid ((pick n m : Nat) = (n % (m : Int))) := by
      show ((pick n m : Nat) : Int) = _
      unfold pick
      rw [if_neg hn, Int.natCast_emod, Int.toNat_of_nonneg hn1]
    clear hn
    go_enter Tryd.func13, Tryd.ntmps13
    go_wp2
    go_ret
    refine ⟨ret_int ?_, rfl⟩
    first | exact HP.out.symm | (rw [Int.tmod_eq_emod_of_nonneg hn1]; exact HP.out.symm)
end Go.Proofs.YtdjamdbamkhblacDoor
