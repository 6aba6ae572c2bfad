/- The walks of the laws' comparisons at two slices, or modules, that hold the same: they answer true. -/
import Derived.Test.YtdjamdbamkhblabDoorModData
import Derived.Test.YtdjamdbamkhblabDoorRd
import Derived.Test.YtdjamdbamkhblabDoorSameC
namespace Go.Proofs.YtdjamdbamkhblabDoor
open Go.RowKit

set_option maxHeartbeats 1000000 in
theorem sameInts_any (A A' : Option Addr) (c c' : Nat) (l : List Int) (w : World) (hr : RdN w w.heap.size A l) (hr' : RdN w w.heap.size A' l) (hl : l.length ≤ maxLen) :
    Calls Tryd.prog 32 #[.slice A l.length c, .slice A' l.length c'] w fun e w' => e = .returned (.bool true) ∧ ∃ n, w' = w.drewN n := by
  unfold maxLen at hl
  go_enter Tryd.func32, Tryd.ntmps32
  go_wp2
  go_loopw [5] (fun i wr => Cnt l.length i fun _ => ∃ n, wr = w.drewN n) (fun i _ => l.length - (intOf i).toNat)
  case atStart => exact ⟨0, Nat.zero_le _, rfl, 0, rfl⟩
  case round =>
    obtain ⟨k, hk, rfl, n, rfl⟩ := hrel
    by_cases hlt : k < l.length
    · obtain ⟨b, o, rfl, hbB, hcell⟩ := hr (by omega)
      obtain ⟨b', o', rfl, hbB', hcell'⟩ := hr' (by omega)
      have c0 := hcell k hlt
      have d0 := hcell' k hlt
      clear hr hr' hcell hcell'
      generalize l[k] = z at *
      go_wp2
      go_quiet (fail)
      go_wp2
      exact ⟨⟨k + 1, by omega, by go_num, _, rfl⟩, by simp [intOf]; omega⟩
    · go_wp2
      go_ret
      exact ⟨rfl, n, rfl⟩

theorem below_drewN (w : World) (n : Nat) : Below w.heap.size w (w.drewN n) := Below.drewN' (Below.refl _ _) n

set_option maxHeartbeats 1000000 in
theorem sameModule_any (m : Mod) (A A' B B' : Option Addr) (c c' d d' : Nat) (w : World) (hr : RdI w w.heap.size A m.code) (hq : RdI w w.heap.size B m.code) (hr' : RdN w w.heap.size A' m.data) (hq' : RdN w w.heap.size B' m.data)
    (hl : m.code.length ≤ maxLen) (hl' : m.data.length ≤ maxLen) :
    Calls Tryd.prog 26 #[.agg #[.string m.name, .slice A m.code.length c, .slice A' m.data.length c'], .agg #[.string m.name, .slice B m.code.length d, .slice B' m.data.length d']] w fun e w' => e = .returned (.bool true) ∧ Below w.heap.size w w' := by
  have ha := ((Below.refl w.heap.size w).alloc (Nat.le_refl _) (.cells #[.string m.name, .slice A m.code.length c, .slice A' m.data.length c'] 50)).alloc (by simp) (.cells #[.string m.name, .slice B m.code.length d, .slice B' m.data.length d'] 50)
  have HA := Lib.hid ha
  clear ha
  go_enter Tryd.func26, Tryd.ntmps26
  go_wp2_with fail
  refine (sameCode_any A B c d m.code _ ((hr.below HA.out).more HA.out.size) ((hq.below HA.out).more HA.out.size) hl).mono ?_
  rintro e w1 ⟨rfl, n, rfl⟩
  go_wp2_with fail
  refine (sameInts_any A' B' c' d' m.data _ ((hr'.below (Below.drewN' HA.out n)).more (Below.drewN' HA.out n).size) ((hq'.below (Below.drewN' HA.out n)).more (Below.drewN' HA.out n).size) hl').mono ?_
  rintro e w2 ⟨rfl, n', rfl⟩
  go_wp2
  go_ret
  exact ⟨rfl, Below.drewN' HA.out _⟩
end Go.Proofs.YtdjamdbamkhblabDoor
