/- The walks of two bytes of a word and of the seal, and of the reference's seal. No condition. -/
import Derived.Test.YtdjamdbamkhblabDoorCodecP
import Derived.Test.YtdjamdbamkhblabDoorBlk
import Derived.Laws.BytesArg
namespace Go.Proofs.YtdjamdbamkhblabDoor
open Go.RowKit
set_option linter.unusedVariables false
set_option linter.unusedSimpArgs false
def ba (l : List UInt8) : ByteArray := ⟨l.toArray⟩
theorem ba_app (a b : List UInt8) : ba a ++ ba b = ba (a ++ b) := by
  apply ByteArray.ext
  simp [ba]
theorem ba_of (s : ByteArray) : ba s.data.toList = s := rfl
theorem conv_nums (W : World) (xs : List Int) (C : Array Value) (hC : C = (xs.map (Value.int .u8)).toArray) (n : Nat) (hn : xs.length = n) (cap : Nat) :
    (convert 71 9 (.slice (some ⟨W.heap.size, 0, none⟩) n cap)).run Tryd.prog (W.alloc (.cells C 5)) = .ok (.string (strOfNums xs)) (W.alloc (.cells C 5)) := by
  refine run_convert_bytes_arg _ 71 5 Tryd.underlying71 Tryd.underlying5 W.heap.size 0 n cap xs hn (fun i hi => ?_) 9 Tryd.underlying9
  subst hC
  simp [List.getD, List.getElem?_eq_getElem (show i < xs.length by omega)]
theorem conv1 (W : World) (x : Int) (cap : Nat) : (convert 71 9 (.slice (some ⟨W.heap.size, 0, none⟩) 1 cap)).run Tryd.prog (W.alloc (.cells #[.int .u8 x] 5)) = .ok (.string (strOfNums [x])) (W.alloc (.cells #[.int .u8 x] 5)) := conv_nums W [x] _ rfl 1 rfl cap
theorem conv2 (W : World) (x y : Int) (cap : Nat) : (convert 71 9 (.slice (some ⟨W.heap.size, 0, none⟩) 2 cap)).run Tryd.prog (W.alloc (.cells #[.int .u8 x, .int .u8 y] 5)) = .ok (.string (strOfNums [x, y])) (W.alloc (.cells #[.int .u8 x, .int .u8 y] 5)) := conv_nums W [x, y] _ rfl 2 rfl cap
theorem conv4 (W : World) (x y z u : Int) (cap : Nat) : (convert 71 9 (.slice (some ⟨W.heap.size, 0, none⟩) 4 cap)).run Tryd.prog (W.alloc (.cells #[.int .u8 x, .int .u8 y, .int .u8 z, .int .u8 u] 5)) = .ok (.string (strOfNums [x, y, z, u])) (W.alloc (.cells #[.int .u8 x, .int .u8 y, .int .u8 z, .int .u8 u] 5)) := conv_nums W [x, y, z, u] _ rfl 4 rfl cap

theorem nums_ba (xs : List Int) : strOfNums xs = ba (xs.map fun n => u8 n.toNat) := by
  simp [strOfNums, ba, u8]
theorem conv1b (W : World) (g : Nat) (x : Int) (cap : Nat) (hg : g = W.heap.size) : (convert 71 9 (.slice (some ⟨g, 0, none⟩) 1 cap)).run Tryd.prog (W.alloc (.cells #[.int .u8 x] 5)) = .ok (.string (ba [u8 x.toNat])) (W.alloc (.cells #[.int .u8 x] 5)) := by
  subst hg
  rw [conv1 W x cap, nums_ba]
  rfl
theorem u8_mod (n : Nat) : u8 (n % 256) = u8 n := by
  apply UInt8.toNat_inj.1
  rw [u8_toNat, u8_toNat]; omega
theorem nums_two (n : Nat) : strOfNums [(n : Int) / 256, (n : Int) % 256] = ba (two n) := by
  rw [nums_ba]
  simp only [List.map_cons, List.map_nil]
  rw [show ((n : Int) / 256).toNat = n / 256 by omega, show ((n : Int) % 256).toNat = n % 256 by omega, u8_mod]
  rfl
theorem adl_drop {l : List UInt8} {k : Nat} (h : k < l.length) (a b : Nat) : adl (l.drop k) a b = adl (l.drop (k + 1)) ((a + l[k].toNat) % 65521) ((b + (a + l[k].toNat) % 65521) % 65521) := by
  rw [List.drop_eq_getElem_cons h]; rfl
theorem adl_end {l : List UInt8} {k : Nat} (h : l.length ≤ k) (a b : Nat) : adl (l.drop k) a b = (a, b) := by
  rw [List.drop_of_length_le h]; rfl
set_option maxHeartbeats 1000000 in
theorem two_any (n : Nat) (w : World) (hn : n ≤ 65535) :
    Calls Tryd.prog 74 #[.int .i64 (n : Int)] w fun e w' => e = .returned (.string (ba (two n))) ∧ Below w.heap.size w w' := by
  have k2 := conv2
  go_enter Tryd.func74, Tryd.ntmps74
  go_wp2
  go_ret
  exact ⟨by rw [← nums_two]; rfl, (Below.refl _ _).alloc (Nat.le_refl _) _⟩
set_option maxHeartbeats 1000000 in
theorem seal_any (s : ByteArray) (w : World) (hs : s.size ≤ maxLen) :
    Calls Tryd.prog 49 #[.string s] w fun e w' => e = .returned (.string (ba (sealL s.data.toList))) ∧ Below w.heap.size w w' := by
  unfold maxLen at hs
  have hsz : s.data.toList.length = s.size := by simp
  go_enter Tryd.func49, Tryd.ntmps49
  go_wp2
  go_loop [3, 4, 8] (fun x y i => Cnt s.size i fun k => ∃ a b : Nat, x = .int .i64 (a : Int) ∧ y = .int .i64 (b : Int) ∧ a < 65521 ∧ b < 65521 ∧ Hid (adl s.data.toList 1 0 = adl (s.data.toList.drop k) a b)) (fun _ _ i => s.size - (intOf i).toNat)
  case atStart => exact ⟨0, Nat.zero_le _, rfl, 1, 0, rfl, rfl, by decide, by decide, rfl⟩
  case round =>
    obtain ⟨k, hk, rfl, a, b, rfl, rfl, ha, hb, HV⟩ := hrel
    by_cases hlt : k < s.size
    · have HD : Hid (adl (s.data.toList.drop k) a b = adl (s.data.toList.drop (k + 1)) ((a + s[k].toNat) % 65521) ((b + (a + s[k].toNat) % 65521) % 65521)) := by
        show _ = _
        have h' : k < s.data.toList.length := by omega
        exact adl_drop h' a b
      have hx : (s[k].toNat : Int) ≤ 255 := by have := s[k].toNat_lt; omega
      clear hsz
      go_wp2
      refine ⟨⟨k + 1, by omega, by go_num, (a + s[k].toNat) % 65521, (b + (a + s[k].toNat) % 65521) % 65521, by simp, by simp, Nat.mod_lt _ (by omega), Nat.mod_lt _ (by omega), ?_⟩, by simp [intOf]; omega⟩
      show _ = _
      rw [HV.out, HD.out]
    · have HF : Hid (adl s.data.toList 1 0 = (a, b)) := by
        show _ = _
        rw [HV.out, adl_end (by omega)]
      clear hsz
      go_wp2_with (first | (go_at_call 74; (with_reducible refine (two_any a _ (by omega)).mono ?_); rintro e w1 ⟨rfl, hb1⟩) | (go_at_call 74; (with_reducible refine (two_any b _ (by omega)).mono ?_); rintro e w2 ⟨rfl, hb2⟩))
      go_ret
      refine ⟨?_, hb2.trans (hb1.mono hb2.size)⟩
      show Ending.returned (.string (ba (two b) ++ ba (two a))) = _
      rw [ba_app, sealL, HF.out]
set_option maxHeartbeats 1000000 in
theorem SealOf_any (s : ByteArray) (w : World) (hs : s.size ≤ maxLen) :
    Calls Tryd.prog 53 #[.string s] w fun e w' => e = .returned (.string (ba (sealL s.data.toList))) ∧ Below w.heap.size w w' := by
  have k4 := conv4
  unfold maxLen at hs
  have hsz : s.data.toList.length = s.size := by simp
  go_enter Tryd.func53, Tryd.ntmps53
  go_wp2
  go_loop [3, 4, 5] (fun x y i => Cnt s.size i fun k => ∃ a b : Nat, x = .int .i64 (a : Int) ∧ y = .int .i64 (b : Int) ∧ a < 65521 ∧ b < 65521 ∧ Hid (adl s.data.toList 1 0 = adl (s.data.toList.drop k) a b)) (fun _ _ i => s.size - (intOf i).toNat)
  case atStart => exact ⟨0, Nat.zero_le _, rfl, 1, 0, rfl, rfl, by decide, by decide, rfl⟩
  case round =>
    obtain ⟨k, hk, rfl, a, b, rfl, rfl, ha, hb, HV⟩ := hrel
    by_cases hlt : k < s.size
    · have HD : Hid (adl (s.data.toList.drop k) a b = adl (s.data.toList.drop (k + 1)) ((a + s[k].toNat) % 65521) ((b + (a + s[k].toNat) % 65521) % 65521)) := by
        show _ = _
        have h' : k < s.data.toList.length := by omega
        exact adl_drop h' a b
      have hx : (s[k].toNat : Int) ≤ 255 := by have := s[k].toNat_lt; omega
      clear hsz
      go_wp2
      refine ⟨⟨k + 1, by omega, by go_num, (a + s[k].toNat) % 65521, (b + (a + s[k].toNat) % 65521) % 65521, by simp, by simp, Nat.mod_lt _ (by omega), Nat.mod_lt _ (by omega), ?_⟩, by simp [intOf]; omega⟩
      show _ = _
      rw [HV.out, HD.out]
    · have HF : Hid (adl s.data.toList 1 0 = (a, b)) := by
        show _ = _
        rw [HV.out, adl_end (by omega)]
      clear hsz
      go_wp2
      go_ret
      refine ⟨?_, (Below.refl _ _).alloc (Nat.le_refl _) _⟩
      show Ending.returned (.string (strOfNums [(b : Int) / 256, (b : Int) % 256, (a : Int) / 256, (a : Int) % 256])) = _
      have e := nums_two b
      have e' := nums_two a
      rw [nums_ba] at e e' ⊢
      unfold sealL
      rw [HF.out]
      have h2 : ∀ {x y : List UInt8}, ba x = ba y → x = y := fun h => by simpa [ba] using h
      rw [← h2 e, ← h2 e']
      rfl
end Go.Proofs.YtdjamdbamkhblabDoor
