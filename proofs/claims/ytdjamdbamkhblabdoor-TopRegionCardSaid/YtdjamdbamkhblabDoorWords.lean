/- The walk of the reference's allWords. -/
import Derived.Test.YtdjamdbamkhblabDoorIn
namespace Go.Proofs.YtdjamdbamkhblabDoor
open Go.RowKit

/-- No word? -/
def oddW (n : Int) : Bool := decide (n < 0 ∨ 65535 < n)
theorem inB_oddW (n : Int) : inB n 0 65535 = !oddW n := by
  rw [Bool.eq_iff_iff]; simp [inB, oddW]

set_option maxHeartbeats 1000000 in
theorem allWords_any (A : Option Addr) (c : Nat) (l : List Int) (w : World) (hr : RdN w w.heap.size A l) (hl : l.length ≤ maxLen) :
    Calls Tryd.prog 68 #[.slice A l.length c] w fun e w' => e = .returned (.bool (!(l.any oddW))) ∧ w = w' := by
  unfold maxLen at hl
  have H0 : Hid (l.any oddW = (l.drop 0).any oddW) := rfl
  go_enter Tryd.func68, Tryd.ntmps68
  go_wp2
  go_loop [3] (fun i => Cnt l.length i fun k => Hid (l.any oddW = (l.drop k).any oddW)) (fun i => l.length - (intOf i).toNat)
  case atStart => exact ⟨0, Nat.zero_le _, rfl, H0⟩
  case round =>
    obtain ⟨k, hk, rfl, HV⟩ := hrel
    by_cases hlt : k < l.length
    · obtain ⟨b, o, rfl, hbB, hcell⟩ := hr (by omega)
      have c0 := hcell k hlt
      have HD : Hid ((l.drop k).any oddW = (oddW l[k] || (l.drop (k + 1)).any oddW)) := by
        show _ = _
        rw [List.drop_eq_getElem_cons (by omega), List.any_cons]
      clear H0 hr hcell
      cases hpk : oddW l[k] with
      | true =>
        have hin : inB l[k] 0 65535 = false := by rw [inB_oddW, hpk]; rfl
        have HK := Lib.hid hpk
        clear hpk
        go_wp2_with (go_at_call 99; refine (IsWord_any _ _).mono ?_; rintro e w' ⟨rfl, rfl⟩)
        go_ret
        exact ⟨ret_bool (by rw [HV.out, HD.out, HK.out]; rfl), rfl⟩
      | false =>
        have hin : inB l[k] 0 65535 = true := by rw [inB_oddW, hpk]; rfl
        have HK := Lib.hid hpk
        clear hpk
        go_wp2_with (go_at_call 99; refine (IsWord_any _ _).mono ?_; rintro e w' ⟨rfl, rfl⟩)
        exact ⟨⟨k + 1, by omega, by go_num, by show _ = _; rw [HV.out, HD.out, HK.out]; rfl⟩, by simp [intOf]; omega⟩
    · go_wp2
      go_ret
      exact ⟨ret_bool (by rw [HV.out, List.drop_of_length_le (by omega)]; rfl), rfl⟩
end Go.Proofs.YtdjamdbamkhblabDoor
