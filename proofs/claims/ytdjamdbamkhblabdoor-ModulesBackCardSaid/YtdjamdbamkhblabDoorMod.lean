/- The walks of module.Check and of its reference: what they return, for every module. -/
import Derived.Test.YtdjamdbamkhblabDoorVerify
import Derived.Test.YtdjamdbamkhblabDoorSafeFault
import Derived.Test.YtdjamdbamkhblabDoorWords
import Derived.Test.YtdjamdbamkhblabDoorName
import Derived.Test.YtdjamdbamkhblabDoorIdxInt
import Derived.Test.YtdjamdbamkhblabDoorModData
namespace Go.Proofs.YtdjamdbamkhblabDoor
open Go.RowKit

def modCheck (m : Mod) : Int := if nameOk m.name then (if 64 < m.data.length then 1 else if m.data.any oddW then 2 else verify m.code) else 4

set_option maxHeartbeats 400000 in
theorem Check1_any (n : Int) (w : World) :
    Calls Tryd.prog 88 #[.int .i64 n] w fun e w' => e = .returned (.bool (oddW n)) ∧ w = w' := by
  go_enter Tryd.func88, Tryd.ntmps88
  go_wp2
  all_goals go_ret
  all_goals refine ⟨ret_bool ?_, rfl⟩
  all_goals (rw [Bool.eq_iff_iff]; simp [oddW]; try omega)
theorem Check1_enter : ∀ args w, (callFunc 88 args).run Tryd.prog w = .ok (.enter 88 args) w := fun args w => by
  simp only [callFunc, run_program, Sem.run_bind, Result.andThen_ok, Tryd.func88]
  rfl

set_option maxHeartbeats 1000000 in
theorem ModCheck_any (m : Mod) (A A' : Option Addr) (c c' : Nat) (w : World) (hn : m.name.size ≤ maxLen) (hr : RdI w w.heap.size A m.code) (hr' : RdN w w.heap.size A' m.data) (ht : Tab w) (hl : m.code.length ≤ maxLen) (hl' : m.data.length ≤ maxLen) :
    Calls Tryd.prog 52 #[.agg #[.string m.name, .slice A m.code.length c, .slice A' m.data.length c']] w fun e w' => e = .returned (.int .i64 (modCheck m)) ∧ Below w.heap.size w w' := by
  have HL := Lib.hid hl
  have HL' := Lib.hid hl'
  unfold maxLen at hl hl'
  have ha : ∀ o, Below w.heap.size w (w.alloc o) := fun o => (Below.refl _ _).alloc (Nat.le_refl _) o
  cases hnm : nameOk m.name with
  | false =>
    have HN := Lib.hid hnm
    clear hnm
    go_enter Tryd.func52, Tryd.ntmps52
    go_wp2_with fail
    refine (Name_any m.name _ hn).mono ?_
    rw [HN.out]
    rintro e w1 ⟨rfl, hb1⟩
    go_wp2
    go_ret
    exact ⟨ret_int (by rw [modCheck, HN.out]; rfl), (ha _).trans (hb1.mono (by simp))⟩
  | true =>
    have HN := Lib.hid hnm
    clear hnm
    by_cases h64 : 64 < m.data.length
    · have h65 : (64 : Int) < (m.data.length : Int) := by omega
      go_enter Tryd.func52, Tryd.ntmps52
      go_wp2_with fail
      refine (Name_any m.name _ hn).mono ?_
      rw [HN.out]
      rintro e w1 ⟨rfl, hb1⟩
      obtain ⟨hc1, hf1⟩ := bcell hb1
      go_wp2
      go_ret
      exact ⟨ret_int (by rw [modCheck, HN.out, if_pos rfl, if_pos h64]), (ha _).trans (hb1.mono (by simp))⟩
    · have h65 : (m.data.length : Int) ≤ 64 := by omega
      go_enter Tryd.func52, Tryd.ntmps52
      go_wp2_with fail
      refine (Name_any m.name _ hn).mono ?_
      rw [HN.out]
      rintro e w1 ⟨rfl, hb1⟩
      obtain ⟨hc1, hf1⟩ := bcell hb1
      have hbw1 := (ha _).trans (hb1.mono (Nat.le_of_lt (by simp)))
      go_wp2_with fail
      refine (ContainsFunc_int 88 #[] oddW A' c' m.data w1 ((hr'.below hbw1).more hbw1.size) HL'.out Check1_enter (fun x _ w2 _ => (Check1_any x w2).mono ?_)).mono ?_
      · rintro e w3 ⟨rfl, rfl⟩
        exact ⟨rfl, Below.refl _ _⟩
      cases hod : m.data.any oddW with
      | true =>
        have HO := Lib.hid hod
        clear hod
        rintro e w2 ⟨rfl, hb2⟩
        go_wp2
        go_ret
        exact ⟨ret_int (by rw [modCheck, HN.out, if_pos rfl, if_neg h64, HO.out]; rfl), hbw1.trans (hb2.mono hbw1.size)⟩
      | false =>
        have HO := Lib.hid hod
        clear hod
        rintro e w2 ⟨rfl, hb2⟩
        obtain ⟨hc2, hf2⟩ := bcell hb2
        have hbw2 := hbw1.trans (hb2.mono hbw1.size)
        have hz := hb1.size
        simp at hz
        have hz1 : w.heap.size < w1.heap.size := by omega
        go_wp2_with fail
        refine (Verify_any A c m.code w2 ((hr.below hbw2).more hbw2.size) (ht.below hbw2) HL.out).mono ?_
        rintro e w3 ⟨rfl, hb3⟩
        go_wp2
        go_ret
        exact ⟨ret_int (by rw [modCheck, HN.out, if_pos rfl, if_neg h64, HO.out]; rfl), hbw2.trans (hb3.mono hbw2.size)⟩
set_option maxHeartbeats 1000000 in
theorem ModFault_any (m : Mod) (A A' : Option Addr) (c c' : Nat) (w : World) (hn : m.name.size ≤ maxLen) (hr : RdI w w.heap.size A m.code) (hr' : RdN w w.heap.size A' m.data) (hl : m.code.length ≤ maxLen) (hl' : m.data.length ≤ maxLen) :
    Calls Tryd.prog 55 #[.agg #[.string m.name, .slice A m.code.length c, .slice A' m.data.length c']] w fun e w' => e = .returned (.int .i64 (modCheck m)) ∧ Below w.heap.size w w' := by
  have HL := Lib.hid hl
  have HL' := Lib.hid hl'
  unfold maxLen at hl hl'
  have ha : ∀ o, Below w.heap.size w (w.alloc o) := fun o => (Below.refl _ _).alloc (Nat.le_refl _) o
  cases hnm : nameOk m.name with
  | false =>
    have HN := Lib.hid hnm
    clear hnm
    go_enter Tryd.func55, Tryd.ntmps55
    go_wp2_with fail
    refine (NameMay_any m.name _ hn).mono ?_
    rw [HN.out]
    rintro e w1 ⟨rfl, rfl⟩
    go_wp2
    go_ret
    exact ⟨ret_int (by rw [modCheck, HN.out]; rfl), ha _⟩
  | true =>
    have HN := Lib.hid hnm
    clear hnm
    by_cases h64 : 64 < m.data.length
    · have h65 : (64 : Int) < (m.data.length : Int) := by omega
      go_enter Tryd.func55, Tryd.ntmps55
      go_wp2_with fail
      refine (NameMay_any m.name _ hn).mono ?_
      rw [HN.out]
      rintro e w1 ⟨rfl, rfl⟩
      go_wp2
      go_ret
      exact ⟨ret_int (by rw [modCheck, HN.out, if_pos rfl, if_pos h64]), ha _⟩
    · have h65 : (m.data.length : Int) ≤ 64 := by omega
      go_enter Tryd.func55, Tryd.ntmps55
      go_wp2_with fail
      refine (NameMay_any m.name _ hn).mono ?_
      rw [HN.out]
      rintro e w1 ⟨rfl, rfl⟩
      have hbw1 := ha (.cells #[.string m.name, .slice A m.code.length c, .slice A' m.data.length c'] 50)
      go_wp2_with fail
      refine (allWords_any A' c' m.data _ ((hr'.below hbw1).more hbw1.size) HL'.out).mono ?_
      cases hod : m.data.any oddW with
      | true =>
        have HO := Lib.hid hod
        clear hod
        rintro e w2 ⟨rfl, rfl⟩
        go_wp2
        go_ret
        exact ⟨ret_int (by rw [modCheck, HN.out, if_pos rfl, if_neg h64, HO.out]; rfl), hbw1⟩
      | false =>
        have HO := Lib.hid hod
        clear hod
        rintro e w2 ⟨rfl, rfl⟩
        go_wp2_with fail
        refine (SafeFault_any A c m.code _ ((hr.below hbw1).more hbw1.size) HL.out).mono ?_
        rintro e w3 ⟨rfl, hb3⟩
        go_wp2
        go_ret
        exact ⟨ret_int (by rw [modCheck, HN.out, if_pos rfl, if_neg h64, HO.out]; rfl), hbw1.trans (hb3.mono hbw1.size)⟩
end Go.Proofs.YtdjamdbamkhblabDoor
