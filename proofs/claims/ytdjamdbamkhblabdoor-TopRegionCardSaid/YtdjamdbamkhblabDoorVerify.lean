/- The walk of safe.Verify: what it returns, for every code. -/
import Derived.Test.YtdjamdbamkhblabDoorSafe
import Derived.Deep.Light
namespace Go.Proofs.YtdjamdbamkhblabDoor
open Go.RowKit

set_option maxHeartbeats 4000000 in
set_option maxRecDepth 100000 in
theorem Verify_any (A : Option Addr) (c : Nat) (l : List Ins) (w : World) (hr : RdI w w.heap.size A l) (ht : Tab w) (hl : l.length ≤ maxLen) :
    Calls Tryd.prog 21 #[.slice A l.length c] w fun e w' => e = .returned (.int .i64 (verify l)) ∧ Below w.heap.size w w' := by
  have HL := Lib.hid hl
  unfold maxLen at hl
  by_cases hc0 : check l = 0
  · have HC := Lib.hid hc0
    clear hc0
    by_cases hn0 : l.length = 0
    · have hn1 : ((l.length : Int) == 0) = true := by simp [hn0]
      have HN := Lib.hid hn0
      clear hn0
      go_enter Tryd.func21, Tryd.ntmps21
      go_wp2_with fail
      refine (Check_any A c l w hr ht HL.out).mono ?_
      rw [HC.out]
      rintro e w1 ⟨rfl, hb1⟩
      go_wp2
      go_ret
      exact ⟨ret_int (by rw [verify, if_pos HC.out, List.eq_nil_of_length_eq_zero HN.out]; rfl), hb1⟩
    · have hn1 : ((l.length : Int) == 0) = false := by rw [beq_eq_false_iff_ne]; omega
      have hr0 := hr
      obtain ⟨b, o, rfl, hbB, hcell⟩ := hr (by omega)
      obtain ⟨c0, c1, c2, c3⟩ := hcell (l.length - 1) (by omega)
      have hbs : b < w.heap.size := hbB
      go_enter Tryd.func21, Tryd.ntmps21
      go_wp2_with fail
      refine (Check_any (some ⟨b, o, none⟩) c l w hr0 ht HL.out).mono ?_
      rw [HC.out]
      rintro e w1 ⟨rfl, hb1⟩
      rw [← hb1.cell (p := ⟨b, _, none⟩) hbB] at c0 c1 c2 c3
      have hz1 : b < w1.heap.size := Nat.lt_of_lt_of_le hbB hb1.size
      have HE : Hid (lastOk l = endB l[l.length - 1]) := by
        show lastOk l = _
        unfold lastOk
        rw [List.getLast?_eq_getElem?, List.getElem?_eq_getElem (by omega)]
      have HF : Hid (verify l = if endB l[l.length - 1] then vrf l.length (l.drop 0) else 10) := by
        show verify l = _
        rw [verify, if_pos HC.out, HE.out, List.drop_zero]
      clear HE
      by_cases hlast : endB l[l.length - 1] = true
      · have hend : endB ⟨l[l.length - 1].op, l[l.length - 1].a, l[l.length - 1].b, l[l.length - 1].c⟩ = true := hlast
        have HV : Hid (verify l = vrf l.length (l.drop 0)) := by show _ = _; rw [HF.out, if_pos hlast]
        have HL2 := Lib.hid hlast
        have HK : Hid (chk l = 0) := by show _ = _; have := HC.out; unfold check at this; split at this <;> simp_all
        clear hlast HF
        go_wp2_with (go_at_call 45; refine (ends_any _ _ _ _ _).mono ?_; rintro e w2 ⟨rfl, rfl⟩)
        clear c0 c1 c2 c3 hend
        go_loopw [26] (fun i wr => Cnt l.length i fun k => Below w.heap.size w wr ∧ Hid (verify l = vrf l.length (l.drop k))) (fun i _ => l.length - (intOf i).toNat)
        case atStart => exact ⟨0, Nat.zero_le _, rfl, hb1.alloc hb1.size _, HV⟩
        case round =>
          clear HV
          obtain ⟨k, hk, rfl, hb, HV⟩ := hrel
          by_cases hlt : k < l.length
          · obtain ⟨c0, c1, c2, c3⟩ := hcell k hlt
            rw [← hb.cell (p := ⟨b, _, none⟩) hbB] at c0 c1 c2 c3
            have HD : Hid (vrf l.length (l.drop k) = if badB l.length l[k] (l.getD (k + 1) default) then 10 else vrf l.length (l.drop (k + 1))) := vrf_drop hlt
            have hbz := hb.size
            have hzr : b < wr.heap.size := Nat.lt_of_lt_of_le hbB hbz
            have hz1 : b < wr.heap.size + 1 := by omega
            have hz2 : b < wr.heap.size + 1 + 1 := by omega
            have hz3 : b < wr.heap.size + 1 + 1 + 1 := by omega
            have hz4 : b < wr.heap.size + 1 + 1 + 1 + 1 := by omega
            have hz5 : b < wr.heap.size + 1 + 1 + 1 + 1 + 1 := by omega
            obtain ⟨o1, o2⟩ := chk_op HK.out k hlt
            by_cases hk1 : k + 1 < l.length
            · obtain ⟨d0, d1, d2, d3⟩ := hcell (k + 1) hk1
              rw [← hb.cell (p := ⟨b, _, none⟩) hbB] at d0 d1 d2 d3
              have HJ : Hid (l.getD (k + 1) default = l[k + 1]) := by show _ = _; simp [List.getD, hk1]
              rw [HJ.out] at HD
              clear hr hr0 hcell
              generalize l[k] = i0 at *
              generalize l[k + 1] = j0 at *
              obtain ⟨io, ia, ib, ic⟩ := i0
              obtain ⟨jo, ja, jb, jc⟩ := j0
              dsimp only at c0 c1 c2 c3 d0 d1 d2 d3 o1 o2
              by_cases hW : io ≤ 8
              · have hW1 : wrB ⟨io, ia, ib, ic⟩ = true := by simp [wrB]; omega
                go_wp2_with (first | (go_at_call 46; refine (writes_any _ _ _ _ _).mono ?_; rintro e w2 ⟨rfl, rfl⟩) | (go_at_call 47; refine (second_any _ _ _ _ _).mono ?_; rintro e w2 ⟨rfl, rfl⟩) | (go_at_call 48; refine (first_any _ _ _ _ _).mono ?_; rintro e w2 ⟨rfl, rfl⟩))
                all_goals first
                  | (go_ret
                     refine ⟨ret_int ?_, ?_⟩
                     · rw [HV.out, HD.out, if_pos]
                       go_light
                       simp_all [badB, jmpB]
                     · go_light
                       repeat (first | exact hb | refine Below.alloc ?_ (by first | omega | (simp; omega)) _))
                  | (refine ⟨?_, ?_⟩
                     · refine ⟨k + 1, by omega, by go_num, ?_, ?_⟩
                       · go_light
                         repeat (first | exact hb | refine Below.alloc ?_ (by first | omega | (simp; omega)) _)
                       · show _ = _
                         rw [HV.out, HD.out, if_neg]
                         go_light
                         simp_all [badB, jmpB]
                     · simp [intOf]; omega)
                  | (exfalso; go_light; simp_all; done)
              · have hW1 : wrB ⟨io, ia, ib, ic⟩ = false := by simp [wrB]; omega
                go_wp2_with (first | (go_at_call 46; refine (writes_any _ _ _ _ _).mono ?_; rintro e w2 ⟨rfl, rfl⟩) | (go_at_call 47; refine (second_any _ _ _ _ _).mono ?_; rintro e w2 ⟨rfl, rfl⟩) | (go_at_call 48; refine (first_any _ _ _ _ _).mono ?_; rintro e w2 ⟨rfl, rfl⟩))
                all_goals first
                  | (go_ret
                     refine ⟨ret_int ?_, ?_⟩
                     · rw [HV.out, HD.out, if_pos]
                       go_light
                       simp_all [badB, jmpB]
                     · go_light
                       repeat (first | exact hb | refine Below.alloc ?_ (by first | omega | (simp; omega)) _))
                  | (refine ⟨?_, ?_⟩
                     · refine ⟨k + 1, by omega, by go_num, ?_, ?_⟩
                       · go_light
                         repeat (first | exact hb | refine Below.alloc ?_ (by first | omega | (simp; omega)) _)
                       · show _ = _
                         rw [HV.out, HD.out, if_neg]
                         go_light
                         simp_all [badB, jmpB]
                     · simp [intOf]; omega)
                  | (exfalso; go_light; simp_all; done)
            · have hO : l[k].op = 10 ∨ l[k].op = 13 ∨ l[k].op = 15 := by
                have h := HL2.out
                have e : l.length - 1 = k := by omega
                simp only [e] at h
                simpa [endB] using h
              clear hr hr0 hcell
              generalize l[k] = i0 at *
              obtain ⟨io, ia, ib, ic⟩ := i0
              dsimp only at c0 c1 c2 c3 o1 o2 hO
              have hW1 : wrB ⟨io, ia, ib, ic⟩ = false := by simp [wrB]; omega
              have hO1 : 9 < io := by omega
              go_wp2_with (first | (go_at_call 46; refine (writes_any _ _ _ _ _).mono ?_; rintro e w2 ⟨rfl, rfl⟩) | (go_at_call 47; refine (second_any _ _ _ _ _).mono ?_; rintro e w2 ⟨rfl, rfl⟩) | (go_at_call 48; refine (first_any _ _ _ _ _).mono ?_; rintro e w2 ⟨rfl, rfl⟩))
              all_goals first
                | (go_ret
                   refine ⟨ret_int ?_, ?_⟩
                   · rw [HV.out, HD.out, if_pos]
                     go_light
                     simp_all [badB, jmpB]
                   · go_light
                     repeat (first | exact hb | refine Below.alloc ?_ (by first | omega | (simp; omega)) _))
                | (refine ⟨?_, ?_⟩
                   · refine ⟨k + 1, by omega, by go_num, ?_, ?_⟩
                     · go_light
                       repeat (first | exact hb | refine Below.alloc ?_ (by first | omega | (simp; omega)) _)
                     · show _ = _
                       rw [HV.out, HD.out, if_neg]
                       go_light
                       simp_all [badB, jmpB]
                   · simp [intOf]; omega)
                | (exfalso; go_light; simp_all; done)
          · go_wp2
            go_ret
            exact ⟨ret_int (by rw [HV.out, List.drop_of_length_le (by omega)]; rfl), hb⟩
      · have hend : endB ⟨l[l.length - 1].op, l[l.length - 1].a, l[l.length - 1].b, l[l.length - 1].c⟩ = false := by simpa using hlast
        have HV : Hid (verify l = 10) := by show _ = _; rw [HF.out, if_neg hlast]
        clear hlast HF
        go_wp2_with (go_at_call 45; refine (ends_any _ _ _ _ _).mono ?_; rintro e w2 ⟨rfl, rfl⟩)
        go_ret
        exact ⟨ret_int HV.out.symm, hb1.alloc hb1.size _⟩
  · have HC := Lib.hid hc0
    have hc1 : (check l == 0) = false := by simp [hc0]
    have hc2 : (check l != 0) = true := by simp [hc0]
    clear hc0
    go_enter Tryd.func21, Tryd.ntmps21
    go_wp2_with fail
    refine (Check_any A c l w hr ht HL.out).mono ?_
    rintro e w1 ⟨rfl, hb1⟩
    go_wp2
    go_ret
    exact ⟨ret_int (by rw [verify, if_neg HC.out]), hb1⟩
end Go.Proofs.YtdjamdbamkhblabDoor
