/- The walk of the laws' comparison of two codes that hold the same: it answers true. -/
import Derived.Test.YtdjamdbamkhblacDoorBase
namespace Go.Proofs.YtdjamdbamkhblacDoor
open Go.RowKit

set_option maxHeartbeats 1000000 in
theorem sameCode_any (A A' : Option Addr) (c c' : Nat) (l : List Ins) (w : World) (hr : RdI w w.heap.size A l) (hr' : RdI w w.heap.size A' l) (hl : l.length ≤ maxLen) :
    Calls Tryd.prog 24 #[.slice A l.length c, .slice A' l.length c'] w fun e w' => e = .returned (.bool true) ∧ ∃ n, w' = w.drewN n := by
  unfold maxLen at hl
  go_enter Tryd.func24, Tryd.ntmps24
  go_wp2
  go_loopw [5] (fun i wr => Cnt l.length i fun _ => ∃ n, wr = w.drewN n) (fun i _ => l.length - (intOf i).toNat)
  case atStart => exact ⟨0, Nat.zero_le _, rfl, 0, rfl⟩
  case round =>
    obtain ⟨k, hk, rfl, n, rfl⟩ := hrel
    by_cases hlt : k < l.length
    · obtain ⟨b, o, rfl, hbB, hcell⟩ := hr (by omega)
      obtain ⟨b', o', rfl, hbB', hcell'⟩ := hr' (by omega)
      obtain ⟨c0, c1, c2, c3⟩ := hcell k hlt
      obtain ⟨d0, d1, d2, d3⟩ := hcell' k hlt
      clear hr hr' hcell hcell'
      generalize l[k] = z at *
      go_wp2
      go_quiet (fail)
      go_wp2
      exact ⟨⟨k + 1, by omega, by go_num, _, rfl⟩, by simp [intOf]; omega⟩
    · go_wp2
      go_ret
      exact ⟨rfl, n, rfl⟩

end Go.Proofs.YtdjamdbamkhblacDoor
