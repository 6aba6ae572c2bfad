/- The walk of the law CodesBack: it answers true. Condition: the library's variables and the tables (EnvT). -/
import Derived.Test.YtdjamdbamkhblacDoorRead
import Derived.Test.YtdjamdbamkhblacDoorShow
import Derived.Test.YtdjamdbamkhblacDoorKCode
import Derived.Test.YtdjamdbamkhblacDoorEqualI
namespace Go.Proofs.YtdjamdbamkhblacDoor
open Go.RowKit
set_option linter.unusedVariables false
set_option linter.unusedSimpArgs false
theorem codeL_check (l : List Ins) : check (codeL l) = 0 := by
  unfold check
  have := codeL_length l
  rw [if_neg (by omega)]
  exact codeL_chk l
theorem showT_size {l : List Ins} (h : check l = 0) : (⟨(showT l).toArray⟩ : ByteArray).size ≤ 2800 := by
  unfold check at h
  split at h
  · cases h
  · have h1 := showT_len (chk_insK.1 h)
    show (showT l).toArray.size ≤ _
    simp
    omega
theorem ReadPost.good {s : List UInt8} {w w' : World} {e : Ending} {l : List Ins} {k : Nat} {n : Int} (h : ReadPost s w e w') (hr : readT s = (l, k, n)) : ∃ A c, e = .returned (.tuple #[.slice A l.length c, .int .i64 (k : Int), .int .i64 n]) ∧ w'.ownsRow w.heap.size 65 4 (.slice A l.length c) l.length (insCells l) ∧ Below w.heap.size w w' := by
  obtain ⟨V, he, hV, hb⟩ := h
  rw [hr] at he hV
  obtain ⟨A, c, rfl⟩ := own_slice hV
  exact ⟨A, c, he, hV, hb⟩
set_option maxRecDepth 100000 in
set_option maxHeartbeats 4000000 in
theorem CodesBack_any (A : Option Addr) (c : Nat) (l : List Ins) (s : ByteArray) (w : World) (hr : RdI w w.heap.size A l) (hwf : ∀ i ∈ l, i.wf) (hl : l.length ≤ maxLen) (hz : s.size ≤ maxLen) (he : EnvT w) :
    Calls Tryd.prog 7 #[.slice A l.length c, .string s] w fun e w' => e = .returned (.bool true) ∧ Below w.heap.size w w' := by
  have HK := Lib.hid (KCode_any A c l w hr hwf hl)
  have HE := Lib.hid he
  obtain ⟨a, ha⟩ : ∃ a, a = codeL l := ⟨_, rfl⟩
  have HCK : Hid (check a = 0) := by rw [ha]; exact codeL_check l
  have hal : a.length ≤ 41 := by rw [ha]; exact codeL_length l
  rw [← ha] at HK
  have HRS := Lib.hid (read_show HCK.out)
  have HSV : Hid (showV a = .tuple #[.string ⟨(showT a).toArray⟩, .int .i64 0]) := by show _ = _; unfold showV; rw [HCK.out, if_pos rfl]
  have HTZ := Lib.hid (showT_size HCK.out)
  obtain ⟨t, ht⟩ : ∃ t : ByteArray, t = ⟨(showT a).toArray⟩ := ⟨_, rfl⟩
  have HTD : Hid (t.data.toList = showT a) := by show _ = _; rw [ht]
  rw [← ht] at HSV HTZ
  have HZ := Lib.hid hz
  clear ha ht hr hwf hl he
  go_enter Tryd.func7, Tryd.ntmps7
  go_wp2_with fail
  refine HK.out.mono ?_
  rintro e w1 ⟨V, rfl, hV, hb1⟩
  obtain ⟨A1, c1, rfl⟩ := own_slice hV
  have HB1 := Lib.hid hb1
  have HV := Lib.hid hV
  have HE1 := Lib.hid (HE.out.below hb1)
  clear hV hb1 HK
  go_wp2_with fail
  refine (Show_any A1 c1 a w1 (RdI.of (Rd.of_own HV.out)) HE1.out.tab (by unfold maxLen; omega)).mono ?_
  rintro e w2 ⟨he2, hb2⟩
  obtain rfl := he2.trans (congrArg _ HSV.out)
  have HB2 := Lib.hid (HB1.out.trans (hb2.mono HB1.out.size))
  have HV2 := Lib.hid (own_below HV.out hb2)
  have HE2 := Lib.hid (HE1.out.below hb2)
  clear he2 hb2 HB1 HV HE1
  go_wp2_with fail
  refine (Read_any t (by have := HTZ.out; unfold maxLen; omega) w2 HE2.out).mono ?_
  intro e w3 h3
  obtain ⟨A3, c3, rfl, hV3, hb3⟩ := h3.good (show readT t.data.toList = (a, 0, 0) from (congrArg readT HTD.out).trans HRS.out)
  have HB3 := Lib.hid (HB2.out.trans (hb3.mono HB2.out.size))
  have HA3 := Lib.hid (own_below HV2.out hb3)
  have HC3 := Lib.hid hV3
  have HE3 := Lib.hid (HE2.out.below hb3)
  clear h3 hV3 hb3 HB2 HV2 HE2
  obtain ⟨⟨x, k, n⟩, hxr⟩ : ∃ r, readT s.data.toList = r := ⟨_, rfl⟩
  have HXR := Lib.hid hxr
  clear hxr
  go_wp2_with fail
  refine (Read_any s HZ.out w3 HE3.out).mono ?_
  intro e w4 h4
  obtain ⟨A4, c4, rfl, hV4, hb4⟩ := h4.good HXR.out
  have HB4 := Lib.hid (HB3.out.trans (hb4.mono HB3.out.size))
  have HA4 := Lib.hid (own_below HA3.out hb4)
  have HC4 := Lib.hid (own_below HC3.out hb4)
  have HX4 := Lib.hid hV4
  have HE4 := Lib.hid (HE3.out.below hb4)
  clear h4 hV4 hb4 HB3 HA3 HC3 HE3
  by_cases hn : n = 0
  · subst hn
    obtain ⟨hck, hst, hk0⟩ := show_read HXR.out
    subst hk0
    have HSX : Hid (showV x = .tuple #[.string s, .int .i64 0]) := by
      show _ = _
      unfold showV
      rw [hck, if_pos rfl, hst, ba_of_list rfl]
    have hxl : x.length ≤ maxLen := by
      unfold check at hck
      split at hck
      · cases hck
      · unfold maxLen; omega
    clear hck hst
    go_wp2_with fail
    refine (Show_any A4 c4 x w4 (RdI.of (Rd.of_own HX4.out)) HE4.out.tab hxl).mono ?_
    rintro e w5 ⟨he5, hb5⟩
    obtain rfl := he5.trans (congrArg _ HSX.out)
    have HB5 := Lib.hid (HB4.out.trans (hb5.mono HB4.out.size))
    have HEQ := Lib.hid (Equal_ins A1 A3 c1 c3 a w5 (RdI.of (Rd.of_own (own_below HA4.out hb5))) (RdI.of (Rd.of_own (own_below HC4.out hb5))) (by unfold maxLen; omega))
    clear he5 hb5 HB4 HA4 HC4 HX4 HE4
    go_wp2_with fail
    refine HEQ.out.mono ?_
    rintro e w6 ⟨rfl, m, rfl⟩
    have HB6 := Lib.hid (HB5.out.trans ((Below.drewN' (Below.refl w5.heap.size w5) m).mono HB5.out.size))
    clear HEQ
    go_wp2
    go_ret
    exact ⟨rfl, HB6.out⟩
  · have hnb : (n == 0) = false := by rw [beq_eq_false_iff_ne]; exact hn
    have HEQ := Lib.hid (Equal_ins A1 A3 c1 c3 a w4 (RdI.of (Rd.of_own HA4.out)) (RdI.of (Rd.of_own HC4.out)) (by unfold maxLen; omega))
    clear HA4 HC4 HX4 HE4
    go_wp2_with fail
    refine HEQ.out.mono ?_
    rintro e w6 ⟨rfl, m, rfl⟩
    have HB6 := Lib.hid (HB4.out.trans ((Below.drewN' (Below.refl w4.heap.size w4) m).mono HB4.out.size))
    clear HEQ
    go_wp2
    go_ret
    exact ⟨rfl, HB6.out⟩
end Go.Proofs.YtdjamdbamkhblacDoor
