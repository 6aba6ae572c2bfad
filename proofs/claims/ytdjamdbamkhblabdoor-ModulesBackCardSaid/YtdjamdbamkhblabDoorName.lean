/- The walks of module.Name and of its reference. -/
import Derived.Test.YtdjamdbamkhblabDoorIn
import Derived.Test.YtdjamdbamkhblabDoorIdxByte
import Derived.Lib.ConvBytes
namespace Go.Proofs.YtdjamdbamkhblabDoor
open Go.RowKit

/-- No small letter? -/
def oddBy (c : UInt8) : Bool := decide (c.toNat < 97 ∨ 122 < c.toNat)
set_option maxHeartbeats 400000 in
theorem Name1_any (c : UInt8) (w : World) :
    Calls Tryd.prog 93 #[.int .u8 c.toNat] w fun e w' => e = .returned (.bool (oddBy c)) ∧ w = w' := by
  go_enter Tryd.func93, Tryd.ntmps93
  go_wp2
  all_goals go_ret
  all_goals refine ⟨ret_bool ?_, rfl⟩
  all_goals (rw [Bool.eq_iff_iff]; simp [oddBy]; omega)
theorem Name1_enter : ∀ args w, (callFunc 93 args).run Tryd.prog w = .ok (.enter 93 args) w := fun args w => by
  simp only [callFunc, run_program, Sem.run_bind, Result.andThen_ok, Tryd.func93]
  rfl

def nameOk (s : ByteArray) : Bool := decide (1 ≤ s.size ∧ s.size ≤ 6) && !(s.data.toList.any oddBy)

/-- '[]byte(s)': a new block that holds the string's bytes. -/
theorem conv_bytes (w : World) (s : ByteArray) : ∃ (cap : Nat) (w1 : World), (convert 9 71 (.string s)).run Tryd.prog w = .ok (.slice (some ⟨w.heap.size, 0, none⟩) s.data.toList.length cap) w1 ∧
    Below w.heap.size w w1 ∧ RdB w1 w1.heap.size (some ⟨w.heap.size, 0, none⟩) s.data.toList := by
  refine ⟨grownCap w s.size 0 5, Lib.bytesWorld w 5 s, (Lib.run_convert_string_bytes w 9 71 5 s Tryd.underlying9 Tryd.underlying71 Tryd.underlying5).trans ?_, ⟨rfl, rfl, rfl, by rw [Lib.bytesWorld_size]; omega, fun k hk => Lib.bytesWorld_at_old w _ s k hk⟩, fun _ => ⟨w.heap.size, 0, rfl, by rw [Lib.bytesWorld_size]; omega, fun k hk => ?_⟩⟩
  · rw [show s.size = s.data.toList.length by simp]
  · rw [Nat.zero_add, Lib.bytesWorld_cell w _ s k (by simpa using hk)]
    simp [List.getD, List.getElem?_eq_getElem hk]

set_option maxHeartbeats 1000000 in
theorem Name_any (s : ByteArray) (w : World) (hs : s.size ≤ maxLen) :
    Calls Tryd.prog 61 #[.string s] w fun e w' => e = .returned (.bool (nameOk s)) ∧ Below w.heap.size w w' := by
  have hl : s.data.toList.length ≤ maxLen := by simpa using hs
  have HL := Lib.hid hl
  have hsz : s.data.toList.length = s.size := by simp
  have hemp : s.toList = s.data.toList := ByteArray.toList_eq s
  unfold maxLen at hs
  by_cases h0 : s.size = 0
  · have hl0 : s.toList = [] := by rw [hemp]; exact List.eq_nil_of_length_eq_zero (by omega)
    have hl1 : (!s.toList.isEmpty) = false := by rw [hl0]; rfl
    have H0 := Lib.hid h0
    clear h0 hemp hsz hl
    go_enter Tryd.func61, Tryd.ntmps61
    go_wp2
    go_ret
    exact ⟨ret_bool (by simp [nameOk, H0.out]), Below.refl _ _⟩
  · have hl0 : ¬ s.toList = [] := fun e => h0 (by rw [← hsz, ← hemp, e]; rfl)
    have hl1 : (!s.toList.isEmpty) = true := by simp [hl0]
    by_cases h6 : 6 < s.size
    · have h6' : (6 : Int) < (s.size : Int) := by omega
      have H6 := Lib.hid h6
      clear h0 hemp hsz hl h6
      go_enter Tryd.func61, Tryd.ntmps61
      go_wp2
      go_ret
      refine ⟨ret_bool ?_, Below.refl _ _⟩
      have := H6.out
      simp [nameOk]; omega
    · have h6' : (s.size : Int) ≤ 6 := by omega
      obtain ⟨cap, w1, hcv, hb1, hr1⟩ := conv_bytes w s
      have HS := Lib.hid (show 1 ≤ s.size ∧ s.size ≤ 6 by omega)
      have HE := Lib.hid hl0
      clear h0 hemp hsz hl h6
      go_enter Tryd.func61, Tryd.ntmps61
      go_wp2_with fail
      refine (ContainsFunc_byte 93 #[] oddBy _ cap s.data.toList w1 hr1 HL.out Name1_enter (fun x _ w2 _ => (Name1_any x w2).mono ?_)).mono ?_
      · rintro e w3 ⟨rfl, rfl⟩
        exact ⟨rfl, Below.refl _ _⟩
      rintro e w2 ⟨rfl, hb2⟩
      go_wp2
      all_goals go_ret
      all_goals refine ⟨ret_bool ?_, hb1.trans (hb2.mono hb1.size)⟩
      all_goals simp [nameOk, HS.out]

set_option maxHeartbeats 1000000 in
theorem NameMay_any (s : ByteArray) (w : World) (hs : s.size ≤ maxLen) :
    Calls Tryd.prog 89 #[.string s] w fun e w' => e = .returned (.bool (nameOk s)) ∧ w = w' := by
  unfold maxLen at hs
  have hsz : s.data.toList.length = s.size := by simp
  have H0 : Hid (s.data.toList.any oddBy = (s.data.toList.drop 0).any oddBy) := rfl
  go_enter Tryd.func89, Tryd.ntmps89
  go_wp2
  go_loop [3] (fun i => Cnt s.size i fun k => Hid (s.data.toList.any oddBy = (s.data.toList.drop k).any oddBy)) (fun i => s.size - (intOf i).toNat)
  case atStart => exact ⟨0, Nat.zero_le _, rfl, H0⟩
  case round =>
    obtain ⟨k, hk, rfl, HV⟩ := hrel
    by_cases hlt : k < s.size
    · have HD : Hid ((s.data.toList.drop k).any oddBy = (oddBy s[k] || (s.data.toList.drop (k + 1)).any oddBy)) := by
        show _ = _
        rw [List.drop_eq_getElem_cons (by omega), List.any_cons]
        rfl
      clear H0 hsz
      have hx : (s[k].toNat : Int) ≤ 255 := by have := s[k].toNat_lt; omega
      cases hpk : oddBy s[k] with
      | true =>
        have hin : inB (s[k].toNat : Int) 97 122 = false := by
          have : s[k].toNat < 97 ∨ 122 < s[k].toNat := by simpa [oddBy] using hpk
          exact inB_false (by omega)
        have HK := Lib.hid hpk
        clear hpk
        go_wp2_with (go_at_call 73; refine (In_any _ _ _ _).mono ?_; rintro e w' ⟨rfl, rfl⟩)
        go_ret
        exact ⟨ret_bool (by simp [nameOk, HV.out, HD.out, HK.out]), rfl⟩
      | false =>
        have hin : inB (s[k].toNat : Int) 97 122 = true := by
          have : ¬ (s[k].toNat < 97 ∨ 122 < s[k].toNat) := by simpa [oddBy] using hpk
          exact inB_true (by omega) (by omega)
        have HK := Lib.hid hpk
        clear hpk
        go_wp2_with (go_at_call 73; refine (In_any _ _ _ _).mono ?_; rintro e w' ⟨rfl, rfl⟩)
        exact ⟨⟨k + 1, by omega, by go_num, by show _ = _; rw [HV.out, HD.out, HK.out]; rfl⟩, by simp [intOf]; omega⟩
    · have HF : Hid (s.data.toList.any oddBy = false) := by
        show _ = _
        rw [HV.out, List.drop_of_length_le (by omega)]; rfl
      clear H0 hsz
      go_wp2_with (go_at_call 73; refine (In_any _ _ _ _).mono ?_; rintro e w' ⟨rfl, rfl⟩)
      go_ret
      refine ⟨ret_bool ?_, rfl⟩
      unfold nameOk inB
      rw [HF.out, Bool.eq_iff_iff]
      simp
      omega
end Go.Proofs.YtdjamdbamkhblabDoor
