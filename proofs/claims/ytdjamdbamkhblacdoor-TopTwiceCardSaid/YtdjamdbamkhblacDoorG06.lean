/- The walk of safe.Verify: what it returns, for every code. The walk of the reference's SafeFault: what it returns, for every code. The walks of slices.IndexFunc and slices.ContainsFunc at one element type: for every predicate whose calls leave old memory as it was. -/
import Derived.Test.YtdjamdbamkhblacDoorG02
import Derived.Deep.Light
import Derived.Test.YtdjamdbamkhblacDoorG04
namespace Go.Proofs.YtdjamdbamkhblacDoor
open Go.RowKit
set_option maxHeartbeats 4000000 in
set_option maxRecDepth 100000 in
theorem Verify_any (A : Option Addr) (c : Nat) (l : List Ins) (w : World) (hr : RdI w w.heap.size A l) (ht : Tab w) (hl : l.length ≤ maxLen) :
  Calls Tryd.prog 83 #[.slice A l.length c] w fun e w' => e = .returned (.int .i64 (verify l)) ∧ Below w.heap.size w w' := by
 have HL := Lib.hid hl
 unfold maxLen at hl
 by_cases hc0 : check l = 0
 ·have HC := Lib.hid hc0
  clear hc0
  by_cases hn0 : l.length = 0
  ·have hn1 : ((l.length : Int) == 0) = true := by simp [hn0]
   have HN := Lib.hid hn0
   clear hn0
   go_enter Tryd.func83, Tryd.ntmps83
   go_wp2_with fail
   refine (Check_any A c l w hr ht HL.out).mono ?_
   rw [HC.out]
   rintro e w1 ⟨rfl, hb1⟩
   go_wp2
   go_ret
   exact ⟨ret_int (by rw [verify, if_pos HC.out, List.eq_nil_of_length_eq_zero HN.out]; rfl), hb1⟩
  ·have hn1 : ((l.length : Int) == 0) = false := by rw [beq_eq_false_iff_ne]; omega
   have hr0 := hr
   obtain ⟨b, o, rfl, hbB, hcell⟩ := hr (by omega)
   obtain ⟨c0, c1, c2, c3⟩ := hcell (l.length - 1) (by omega)
   have hbs : b < w.heap.size := hbB
   go_enter Tryd.func83, Tryd.ntmps83
   go_wp2_with fail
   refine (Check_any (some ⟨b, o, none⟩) c l w hr0 ht HL.out).mono ?_
   rw [HC.out]
   rintro e w1 ⟨rfl, hb1⟩
   rw [← hb1.cell (p := ⟨b, _, none⟩) hbB] at c0 c1 c2 c3
   have hz1 : b < w1.heap.size := Nat.lt_of_lt_of_le hbB hb1.size
   have HE : Hid (lastOk l = endB l[l.length - 1]) := by
    show lastOk l = _
    unfold lastOk
    rw [List.getLast?_eq_getElem?, List.getElem?_eq_getElem (by omega)]
   have HF : Hid (verify l = if endB l[l.length - 1] then vrf l.length (l.drop 0) else 10) := by
    show verify l = _
    rw [verify, if_pos HC.out, HE.out, List.drop_zero]
   clear HE
   by_cases hlast : endB l[l.length - 1] = true
   ·have hend : endB ⟨l[l.length - 1].op, l[l.length - 1].a, l[l.length - 1].b, l[l.length - 1].c⟩ = true := hlast
    have HV : Hid (verify l = vrf l.length (l.drop 0)) := by show _ = _; rw [HF.out, if_pos hlast]
    have HL2 := Lib.hid hlast
    have HK : Hid (chk l = 0) := by show _ = _; have := HC.out; unfold check at this; split at this <;> simp_all
    clear hlast HF
    go_wp2_with (go_at_call 123; refine (ends_any _ _ _ _ _).mono ?_; rintro e w2 ⟨rfl, rfl⟩)
    clear c0 c1 c2 c3 hend
    go_loopw [26] (fun i wr => Cnt l.length i fun k => Below w.heap.size w wr ∧ Hid (verify l = vrf l.length (l.drop k))) (fun i _ => l.length - (intOf i).toNat)
    case atStart => exact ⟨0, Nat.zero_le _, rfl, hb1.alloc hb1.size _, HV⟩
    case round =>
     clear HV
     obtain ⟨k, hk, rfl, hb, HV⟩ := hrel
     by_cases hlt : k < l.length
     ·obtain ⟨c0, c1, c2, c3⟩ := hcell k hlt
      rw [← hb.cell (p := ⟨b, _, none⟩) hbB] at c0 c1 c2 c3
      have HD : Hid (vrf l.length (l.drop k) = if badB l.length l[k] (l.getD (k + 1) default) then 10 else vrf l.length (l.drop (k + 1))) := vrf_drop hlt
      have hbz := hb.size
      have hzr : b < wr.heap.size := Nat.lt_of_lt_of_le hbB hbz
      have hz1 : b < wr.heap.size + 1 := by omega
      have hz2 : b < wr.heap.size + 1 + 1 := by omega
      have hz3 : b < wr.heap.size + 1 + 1 + 1 := by omega
      have hz4 : b < wr.heap.size + 1 + 1 + 1 + 1 := by omega
      have hz5 : b < wr.heap.size + 1 + 1 + 1 + 1 + 1 := by omega
      obtain ⟨o1, o2⟩ := chk_op HK.out k hlt
      by_cases hk1 : k + 1 < l.length
      ·obtain ⟨d0, d1, d2, d3⟩ := hcell (k + 1) hk1
       rw [← hb.cell (p := ⟨b, _, none⟩) hbB] at d0 d1 d2 d3
       have HJ : Hid (l.getD (k + 1) default = l[k + 1]) := by show _ = _; simp [List.getD, hk1]
       rw [HJ.out] at HD
       clear hr hr0 hcell
       generalize l[k] = i0 at *
       generalize l[k + 1] = j0 at *
       obtain ⟨io, ia, ib, ic⟩ := i0
       obtain ⟨jo, ja, jb, jc⟩ := j0
       dsimp only at c0 c1 c2 c3 d0 d1 d2 d3 o1 o2
       by_cases hW : io ≤ 8
       ·have hW1 : wrB ⟨io, ia, ib, ic⟩ = true := by simp [wrB]; omega
        go_wp2_with (first | (go_at_call 124; refine (writes_any _ _ _ _ _).mono ?_; rintro e w2 ⟨rfl, rfl⟩) | (go_at_call 125; refine (second_any _ _ _ _ _).mono ?_; rintro e w2 ⟨rfl, rfl⟩) | (go_at_call 126; refine (first_any _ _ _ _ _).mono ?_; rintro e w2 ⟨rfl, rfl⟩))
        all_goals first
         | (go_ret
            refine ⟨ret_int ?_, ?_⟩
            ·rw [HV.out, HD.out, if_pos]
             go_light
             simp_all [badB, jmpB]
            ·go_light
             repeat (first | exact hb | refine Below.alloc ?_ (by first | omega | (simp; omega)) _))
         | (refine ⟨?_, ?_⟩
            ·refine ⟨k + 1, by omega, by go_num, ?_, ?_⟩
             ·go_light
              repeat (first | exact hb | refine Below.alloc ?_ (by first | omega | (simp; omega)) _)
             ·show _ = _
              rw [HV.out, HD.out, if_neg]
              go_light
              simp_all [badB, jmpB]
            ·simp [intOf]; omega)
         | (exfalso; go_light; simp_all; done)
       ·have hW1 : wrB ⟨io, ia, ib, ic⟩ = false := by simp [wrB]; omega
        go_wp2_with (first | (go_at_call 124; refine (writes_any _ _ _ _ _).mono ?_; rintro e w2 ⟨rfl, rfl⟩) | (go_at_call 125; refine (second_any _ _ _ _ _).mono ?_; rintro e w2 ⟨rfl, rfl⟩) | (go_at_call 126; refine (first_any _ _ _ _ _).mono ?_; rintro e w2 ⟨rfl, rfl⟩))
        all_goals first
         | (go_ret
            refine ⟨ret_int ?_, ?_⟩
            ·rw [HV.out, HD.out, if_pos]
             go_light
             simp_all [badB, jmpB]
            ·go_light
             repeat (first | exact hb | refine Below.alloc ?_ (by first | omega | (simp; omega)) _))
         | (refine ⟨?_, ?_⟩
            ·refine ⟨k + 1, by omega, by go_num, ?_, ?_⟩
             ·go_light
              repeat (first | exact hb | refine Below.alloc ?_ (by first | omega | (simp; omega)) _)
             ·show _ = _
              rw [HV.out, HD.out, if_neg]
              go_light
              simp_all [badB, jmpB]
            ·simp [intOf]; omega)
         | (exfalso; go_light; simp_all; done)
      ·have hO : l[k].op = 10 ∨ l[k].op = 13 ∨ l[k].op = 15 := by
        have h := HL2.out
        have e : l.length - 1 = k := by omega
        simp only [e] at h
        simpa [endB] using h
       clear hr hr0 hcell
       generalize l[k] = i0 at *
       obtain ⟨io, ia, ib, ic⟩ := i0
       dsimp only at c0 c1 c2 c3 o1 o2 hO
       have hW1 : wrB ⟨io, ia, ib, ic⟩ = false := by simp [wrB]; omega
       have hO1 : 9 < io := by omega
       go_wp2_with (first | (go_at_call 124; refine (writes_any _ _ _ _ _).mono ?_; rintro e w2 ⟨rfl, rfl⟩) | (go_at_call 125; refine (second_any _ _ _ _ _).mono ?_; rintro e w2 ⟨rfl, rfl⟩) | (go_at_call 126; refine (first_any _ _ _ _ _).mono ?_; rintro e w2 ⟨rfl, rfl⟩))
       all_goals first
        | (go_ret
           refine ⟨ret_int ?_, ?_⟩
           ·rw [HV.out, HD.out, if_pos]
            go_light
            simp_all [badB, jmpB]
           ·go_light
            repeat (first | exact hb | refine Below.alloc ?_ (by first | omega | (simp; omega)) _))
        | (refine ⟨?_, ?_⟩
           ·refine ⟨k + 1, by omega, by go_num, ?_, ?_⟩
            ·go_light
             repeat (first | exact hb | refine Below.alloc ?_ (by first | omega | (simp; omega)) _)
            ·show _ = _
             rw [HV.out, HD.out, if_neg]
             go_light
             simp_all [badB, jmpB]
           ·simp [intOf]; omega)
        | (exfalso; go_light; simp_all; done)
     ·go_wp2
      go_ret
      exact ⟨ret_int (by rw [HV.out, List.drop_of_length_le (by omega)]; rfl), hb⟩
   ·have hend : endB ⟨l[l.length - 1].op, l[l.length - 1].a, l[l.length - 1].b, l[l.length - 1].c⟩ = false := by simpa using hlast
    have HV : Hid (verify l = 10) := by show _ = _; rw [HF.out, if_neg hlast]
    clear hlast HF
    go_wp2_with (go_at_call 123; refine (ends_any _ _ _ _ _).mono ?_; rintro e w2 ⟨rfl, rfl⟩)
    go_ret
    exact ⟨ret_int HV.out.symm, hb1.alloc hb1.size _⟩
 ·have HC := Lib.hid hc0
  have hc1 : (check l == 0) = false := by simp [hc0]
  have hc2 : (check l != 0) = true := by simp [hc0]
  clear hc0
  go_enter Tryd.func83, Tryd.ntmps83
  go_wp2_with fail
  refine (Check_any A c l w hr ht HL.out).mono ?_
  rintro e w1 ⟨rfl, hb1⟩
  go_wp2
  go_ret
  exact ⟨ret_int (by rw [verify, if_neg HC.out]), hb1⟩
end Go.Proofs.YtdjamdbamkhblacDoor
namespace Go.Proofs.YtdjamdbamkhblacDoor
open Go.RowKit
end Go.Proofs.YtdjamdbamkhblacDoor
namespace Go.Proofs.YtdjamdbamkhblacDoor
open Go.RowKit
def RdB (w : World) (B : Nat) (A : Option Addr) (l : List UInt8) : Prop :=
 0 < l.length → ∃ b o, A = some ⟨b, o, none⟩ ∧ b < B ∧ ∀ k (h : k < l.length), w.cell? ⟨b, o + k, none⟩ = some (.int .u8 l[k].toNat)
set_option maxHeartbeats 1000000 in
theorem IndexFunc_byte (F : FuncId) (cp : Array Value) (p : UInt8 → Bool) (A : Option Addr) (c : Nat) (l : List UInt8) (w : World) (hr : RdB w w.heap.size A l) (hl : l.length ≤ maxLen)
  (eg : ∀ args w, (callFunc F args).run Tryd.prog w = .ok (.enter F args) w)
  (hp : ∀ x ∈ l, ∀ (w1 : World), Below w.heap.size w w1 → Calls Tryd.prog F (#[.int .u8 x.toNat] ++ cp) w1 fun e w' => e = .returned (.bool (p x)) ∧ Below w1.heap.size w1 w') :
  Calls Tryd.prog 127 #[.slice A l.length c, .func (.func F) #[] cp] w fun e w' => e = .returned (.int .i64 (idxF p l 0)) ∧ Below w.heap.size w w' := by
 unfold maxLen at hl
 have HP := Lib.hid hp
 clear hp
 go_enter Tryd.func127, Tryd.ntmps127
 go_wp2
 go_loopw [8] (fun i wr => Cnt l.length i fun k => Below w.heap.size w wr ∧ Hid (idxF p l 0 = idxF p (l.drop k) k)) (fun i _ => l.length - (intOf i).toNat)
 case atStart => exact ⟨0, Nat.zero_le _, rfl, Below.refl _ _, rfl⟩
 case round =>
  obtain ⟨k, hk, rfl, hb, HV⟩ := hrel
  by_cases hlt : k < l.length
  ·obtain ⟨b, o, rfl, hbB, hcell⟩ := hr (by omega)
   have c0 := hcell k hlt
   rw [← hb.cell (p := ⟨b, _, none⟩) hbB] at c0
   have HD := Lib.hid (idxF_drop (p := p) hlt)
   have HM := Lib.hid (List.getElem_mem hlt)
   clear hr hcell
   cases hpk : p l[k] with
   | true =>
     have HK := Lib.hid hpk
     clear hpk
     go_wp2_with fail
     refine (HP.out _ HM.out _ hb).mono ?_
     rw [HK.out]
     rintro e w1 ⟨rfl, hb1⟩
     go_wp2
     go_ret
     exact ⟨ret_int (by rw [HV.out, HD.out, if_pos HK.out]), hb.trans (hb1.mono hb.size)⟩
   | false =>
     have HK := Lib.hid hpk
     clear hpk
     go_wp2_with fail
     refine (HP.out _ HM.out _ hb).mono ?_
     rw [HK.out]
     rintro e w1 ⟨rfl, hb1⟩
     go_wp2
     go_roundw
     case rel => exact ⟨k + 1, by omega, by go_num, hb.trans (hb1.mono hb.size), by show _ = _; rw [HV.out, HD.out, if_neg (by rw [HK.out]; decide)]⟩
     case measure => simp [intOf]; omega
  ·go_wp2
   go_ret
   exact ⟨ret_int (by rw [HV.out, List.drop_of_length_le (by omega)]; rfl), hb⟩
set_option maxHeartbeats 400000 in
theorem ContainsFunc_byte (F : FuncId) (cp : Array Value) (p : UInt8 → Bool) (A : Option Addr) (c : Nat) (l : List UInt8) (w : World) (hr : RdB w w.heap.size A l) (hl : l.length ≤ maxLen)
  (eg : ∀ args w, (callFunc F args).run Tryd.prog w = .ok (.enter F args) w)
  (hp : ∀ x ∈ l, ∀ (w1 : World), Below w.heap.size w w1 → Calls Tryd.prog F (#[.int .u8 x.toNat] ++ cp) w1 fun e w' => e = .returned (.bool (p x)) ∧ Below w1.heap.size w1 w') :
  Calls Tryd.prog 86 #[.slice A l.length c, .func (.func F) #[] cp] w fun e w' => e = .returned (.bool (l.any p)) ∧ Below w.heap.size w w' := by
 have HP := Lib.hid hp
 have HE := Lib.hid eg
 clear hp eg
 go_enter Tryd.func86, Tryd.ntmps86
 go_wp2_with fail
 refine (IndexFunc_byte F cp p A c l w hr hl HE.out HP.out).mono ?_
 rintro e w1 ⟨rfl, hb1⟩
 go_wp2
 all_goals go_ret
 all_goals refine ⟨ret_bool ?_, hb1⟩
 all_goals rw [← idxF_any p l 0]
end Go.Proofs.YtdjamdbamkhblacDoor
