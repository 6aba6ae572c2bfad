/- slices.Clone at integers: a new row of the call's own that holds what the slice held. -/
import Derived.Test.YtdjamdbamkhblabDoorRd
namespace Go.Proofs.YtdjamdbamkhblabDoor
open Go.RowKit
theorem info_int : (Tryd.prog.info? 3).map (fun i => (i.zero, i.size, i.bytes)) = some (some (.int .i64 0), 1, 8) := by kernel_rfl
set_option maxHeartbeats 1000000 in
theorem Clone_int (A : Option Addr) (n c : Nat) (xs : List Value) (w : World) (hr : Rd w w.heap.size 1 A n xs) (hnil : A = none → n = 0 ∧ c = 0) (h1 : ∀ u ∈ xs, u.oneCell' = true) (hn : n * 8 ≤ 140737488351232) :
    Calls Tryd.prog 42 #[.slice A n c] w fun e w' => ∃ A' c', e = .returned (.slice A' n c') ∧ w'.ownsRow w.heap.size 3 1 (.slice A' n c') n xs ∧ Below w.heap.size w w' := by
  obtain ⟨i0, hi0, hz0, hz1, hz2⟩ := info_parts info_int
  have hq := fun (W : World) (a : Option Addr) (l c n' c' : Nat) => Lib.run_eql_slice_nil (P := Tryd.prog) W 33 3 a l c n' c' Tryd.underlying33
  cases A with
  | none =>
    obtain ⟨rfl, rfl⟩ := hnil rfl
    have hx : xs = [] := List.eq_nil_of_length_eq_zero (by simpa using hr.1)
    have HX := Lib.hid hx
    clear hx
    go_enter Tryd.func42, Tryd.ntmps42
    go_wp2
    go_ret
    exact ⟨_, _, rfl, by rw [HX.out]; exact World.ownsRow_nil _ _ _ _, Below.refl _ _⟩
  | some ad =>
    have hU := Tryd.underlying33
    go_enter Tryd.func42, Tryd.ntmps42
    go_wp2_with (at_builtin; (refine wpList_append_rd _ rfl (.tmp 5) (.tmp 6) _ rfl w.heap.size 3 i0 _ 1 8 hU hi0 hz0 hz1 hz2 rfl (by omega) (.slice (some ⟨w.heap.size, 0, none⟩) 0 0) 0 [] rfl ?own w.heap.size (some ad) n c xs rfl ?rd h1 ?len ?byt ?bas ?_); (case own => exact World.ownsRow_made w #[] 0 (Nat.le_refl _) (by simp [maxLen]) rfl); (case rd => exact hr.keep fun p hp => World.cell?_alloc_lt w _ p hp); (case len => (simp [maxLen]; omega)); (case byt => omega); (case bas => simp); intro v1 w1 hv1 hg1 _)
    go_ret
    rw [Nat.zero_add] at hv1
    obtain ⟨a1, k1, e1⟩ := own_slice hv1
    rw [e1] at hv1
    exact ⟨a1, k1, congrArg Ending.returned e1, by simpa using hv1, ((Below.refl _ _).alloc (Nat.le_refl _) _).grown hg1 (by simp) (by simp [Value.ownBlock])⟩
end Go.Proofs.YtdjamdbamkhblabDoor
