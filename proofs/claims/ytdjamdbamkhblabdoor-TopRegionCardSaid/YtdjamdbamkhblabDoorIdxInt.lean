/- The walks of slices.IndexFunc and slices.ContainsFunc at one element type: for every predicate whose calls leave old memory as it was. -/
import Derived.Test.YtdjamdbamkhblabDoorIdx
namespace Go.Proofs.YtdjamdbamkhblabDoor
open Go.RowKit

set_option maxHeartbeats 1000000 in
theorem IndexFunc_int (F : FuncId) (cp : Array Value) (p : Int → Bool) (A : Option Addr) (c : Nat) (l : List Int) (w : World) (hr : RdN w w.heap.size A l) (hl : l.length ≤ maxLen)
    (eg : ∀ args w, (callFunc F args).run Tryd.prog w = .ok (.enter F args) w)
    (hp : ∀ x ∈ l, ∀ (w1 : World), Below w.heap.size w w1 → Calls Tryd.prog F (#[.int .i64 x] ++ cp) w1 fun e w' => e = .returned (.bool (p x)) ∧ Below w1.heap.size w1 w') :
    Calls Tryd.prog 82 #[.slice A l.length c, .func (.func F) #[] cp] w fun e w' => e = .returned (.int .i64 (idxF p l 0)) ∧ Below w.heap.size w w' := by
  unfold maxLen at hl
  have HP := Lib.hid hp
  clear hp
  go_enter Tryd.func82, Tryd.ntmps82
  go_wp2
  go_loopw [8] (fun i wr => Cnt l.length i fun k => Below w.heap.size w wr ∧ Hid (idxF p l 0 = idxF p (l.drop k) k)) (fun i _ => l.length - (intOf i).toNat)
  case atStart => exact ⟨0, Nat.zero_le _, rfl, Below.refl _ _, rfl⟩
  case round =>
    obtain ⟨k, hk, rfl, hb, HV⟩ := hrel
    by_cases hlt : k < l.length
    · obtain ⟨b, o, rfl, hbB, hcell⟩ := hr (by omega)
      have c0 := hcell k hlt
      rw [← hb.cell (p := ⟨b, _, none⟩) hbB] at c0
      have HD := Lib.hid (idxF_drop (p := p) hlt)
      have HM := Lib.hid (List.getElem_mem hlt)
      clear hr hcell
      cases hpk : p l[k] with
      | true =>
        have HK := Lib.hid hpk
        clear hpk
        go_wp2_with fail
        refine (HP.out _ HM.out _ hb).mono ?_
        rw [HK.out]
        rintro e w1 ⟨rfl, hb1⟩
        go_wp2
        go_ret
        exact ⟨ret_int (by rw [HV.out, HD.out, if_pos HK.out]), hb.trans (hb1.mono hb.size)⟩
      | false =>
        have HK := Lib.hid hpk
        clear hpk
        go_wp2_with fail
        refine (HP.out _ HM.out _ hb).mono ?_
        rw [HK.out]
        rintro e w1 ⟨rfl, hb1⟩
        go_wp2
        go_roundw
        case rel => exact ⟨k + 1, by omega, by go_num, hb.trans (hb1.mono hb.size), by show _ = _; rw [HV.out, HD.out, if_neg (by rw [HK.out]; decide)]⟩
        case measure => simp [intOf]; omega
    · go_wp2
      go_ret
      exact ⟨ret_int (by rw [HV.out, List.drop_of_length_le (by omega)]; rfl), hb⟩

set_option maxHeartbeats 400000 in
theorem ContainsFunc_int (F : FuncId) (cp : Array Value) (p : Int → Bool) (A : Option Addr) (c : Nat) (l : List Int) (w : World) (hr : RdN w w.heap.size A l) (hl : l.length ≤ maxLen)
    (eg : ∀ args w, (callFunc F args).run Tryd.prog w = .ok (.enter F args) w)
    (hp : ∀ x ∈ l, ∀ (w1 : World), Below w.heap.size w w1 → Calls Tryd.prog F (#[.int .i64 x] ++ cp) w1 fun e w' => e = .returned (.bool (p x)) ∧ Below w1.heap.size w1 w') :
    Calls Tryd.prog 39 #[.slice A l.length c, .func (.func F) #[] cp] w fun e w' => e = .returned (.bool (l.any p)) ∧ Below w.heap.size w w' := by
  have HP := Lib.hid hp
  have HE := Lib.hid eg
  clear hp eg
  go_enter Tryd.func39, Tryd.ntmps39
  go_wp2_with fail
  refine (IndexFunc_int F cp p A c l w hr hl HE.out HP.out).mono ?_
  rintro e w1 ⟨rfl, hb1⟩
  go_wp2
  all_goals go_ret
  all_goals refine ⟨ret_bool ?_, hb1⟩
  all_goals rw [← idxF_any p l 0]

end Go.Proofs.YtdjamdbamkhblabDoor
