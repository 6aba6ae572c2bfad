/- The walks of safe.plain and of its reference. -/
import Derived.Test.YtdjamdbamkhblaaDoorPlain
namespace Go.Proofs.YtdjamdbamkhblaaDoor
open Go.RowKit

theorem plain1_enter : ∀ args w, (callFunc 53 args).run Tryd.prog w = .ok (.enter 53 args) w := fun args w => by
  simp only [callFunc, run_program, Sem.run_bind, Result.andThen_ok, Tryd.func53]
  rfl
theorem lastOk_nil {l : List Ins} (h : l.length = 0) : lastOk l = false := by rw [List.eq_nil_of_length_eq_zero h]; rfl
theorem lastOk_pos {l : List Ins} (h : 0 < l.length) : lastOk l = endB l[l.length - 1] := by
  unfold lastOk
  rw [List.getLast?_eq_getElem?, List.getElem?_eq_getElem (by omega)]

set_option maxHeartbeats 1000000 in
theorem Plain_any (A : Option Addr) (c : Nat) (l : List Ins) (w : World) (hr : RdI w w.heap.size A l) (hl : l.length ≤ maxLen) :
    Calls Tryd.prog 38 #[.slice A l.length c] w fun e w' => e = .returned (.bool (plainB l)) ∧ Below w.heap.size w w' := by
  have HL := Lib.hid hl
  unfold maxLen at hl
  by_cases hn0 : l.length = 0
  · have hn1 : ((l.length : Int) == 0) = true := by simp [hn0]
    have HN := Lib.hid hn0
    clear hn0
    go_enter Tryd.func38, Tryd.ntmps38
    go_wp2
    go_ret
    exact ⟨ret_bool (by rw [plainB, lastOk_nil HN.out]; rfl), Below.one' _ _⟩
  · have hn1 : ((l.length : Int) == 0) = false := by rw [beq_eq_false_iff_ne]; omega
    have hr0 := hr
    obtain ⟨b, o, rfl, hbB, hcell⟩ := hr (by omega)
    have hp0 : 0 < l.length := by omega
    have hp1 : l.length - 1 < l.length := by omega
    obtain ⟨c0, c1, c2, c3⟩ := hcell (l.length - 1) hp1
    have HE := Lib.hid (lastOk_pos hp0)
    have hb1 := Below.one' w (.cells #[.slice (some ⟨b, o, none⟩) l.length c] 22)
    have HR := Lib.hid ((hr0.below hb1).more hb1.size)
    clear hr hr0 hcell hn0
    cases hlast : endB l[l.length - 1] with
    | false =>
      have hend : endB ⟨l[l.length - 1].op, l[l.length - 1].a, l[l.length - 1].b, l[l.length - 1].c⟩ = false := hlast
      have HX := Lib.hid hlast
      clear hlast
      go_enter Tryd.func38, Tryd.ntmps38
      go_wp2_with (go_at_call 30; refine (ends_any _ _ _ _ _).mono ?_; rintro e w2 ⟨rfl, rfl⟩)
      go_ret
      exact ⟨ret_bool (by rw [plainB, HE.out, HX.out]; rfl), hb1.alloc hb1.size _⟩
    | true =>
      have hend : endB ⟨l[l.length - 1].op, l[l.length - 1].a, l[l.length - 1].b, l[l.length - 1].c⟩ = true := hlast
      have HX := Lib.hid hlast
      clear hlast
      go_enter Tryd.func38, Tryd.ntmps38
      go_wp2_with (go_at_call 30; refine (ends_any _ _ _ _ _).mono ?_; rintro e w2 ⟨rfl, rfl⟩)
      have hb2 := hb1.alloc hb1.size (.cells #[.int .i64 l[l.length - 1].op, .int .i64 l[l.length - 1].a, .int .i64 l[l.length - 1].b, .int .i64 l[l.length - 1].c] 52)
      refine (ContainsFunc_ins 53 #[.pointer (some ⟨w.heap.size, 0, none⟩)] (unplainB l.length) (some ⟨b, o, none⟩) c l _ ((HR.out.below (Below.one' _ _)).more (Below.one' _ _).size) HL.out plain1_enter (fun x _ w2 hw2 => ?_)).mono ?_
      · refine plain1_any x w.heap.size l.length c (some ⟨b, o, none⟩) w2 (Nat.lt_of_lt_of_le (by simp; omega) hw2.size) ((hw2.cell (p := ⟨w.heap.size, 0, none⟩) (by simp; omega)).trans (by simp)) HL.out
      rintro e w3 ⟨rfl, hb3⟩
      go_wp2
      go_ret
      exact ⟨ret_bool (by rw [plainB, HE.out, HX.out, Bool.true_and]), hb2.trans (hb3.mono hb2.size)⟩

theorem unplain_in (n : Nat) (i : Ins) : unplainB n i = (inB i.a 4 6 || inB i.b 4 6 || (inB i.op 2 7 && inB i.c 4 6) || (jmpB i && decide ((n : Int) ≤ i.c))) := by
  rw [Bool.eq_iff_iff]
  simp [unplainB, oddB, inB]
theorem any_drop {p : Ins → Bool} {l : List Ins} {k : Nat} (h : k < l.length) : (l.drop k).any p = (p l[k] || (l.drop (k + 1)).any p) := by
  rw [List.drop_eq_getElem_cons h, List.any_cons]

set_option maxHeartbeats 4000000 in
theorem PlainMay_any (A : Option Addr) (c : Nat) (l : List Ins) (w : World) (hr : RdI w w.heap.size A l) (hl : l.length ≤ maxLen) :
    Calls Tryd.prog 48 #[.slice A l.length c] w fun e w' => e = .returned (.bool (plainB l)) ∧ Below w.heap.size w w' := by
  unfold maxLen at hl
  by_cases hn0 : l.length = 0
  · have hn1 : ((l.length : Int) == 0) = true := by simp [hn0]
    have HN := Lib.hid hn0
    clear hn0
    go_enter Tryd.func48, Tryd.ntmps48
    go_wp2
    go_ret
    exact ⟨ret_bool (by rw [plainB, lastOk_nil HN.out]; rfl), Below.refl _ _⟩
  · have hn1 : ((l.length : Int) == 0) = false := by rw [beq_eq_false_iff_ne]; omega
    obtain ⟨b, o, rfl, hbB, hcell⟩ := hr (by omega)
    have hp0 : 0 < l.length := by omega
    have hp1 : l.length - 1 < l.length := by omega
    obtain ⟨c0, c1, c2, c3⟩ := hcell (l.length - 1) hp1
    have HE := Lib.hid (lastOk_pos hp0)
    clear hr hn0
    cases hlast : endB l[l.length - 1] with
    | false =>
      have hend : endB ⟨l[l.length - 1].op, l[l.length - 1].a, l[l.length - 1].b, l[l.length - 1].c⟩ = false := hlast
      have HX := Lib.hid hlast
      clear hlast hcell
      go_enter Tryd.func48, Tryd.ntmps48
      go_wp2_with (go_at_call 34; refine (stops_any _ _ _ _ _).mono ?_; rintro e w2 ⟨rfl, rfl⟩)
      go_ret
      exact ⟨ret_bool (by rw [plainB, HE.out, HX.out]; rfl), Below.one' _ _⟩
    | true =>
      have hend : endB ⟨l[l.length - 1].op, l[l.length - 1].a, l[l.length - 1].b, l[l.length - 1].c⟩ = true := hlast
      have HP : Hid (plainB l = !(l.drop 0).any (unplainB l.length)) := by show _ = _; rw [plainB, HE.out, hlast, Bool.true_and]; rfl
      have HC := Lib.hid hcell
      clear hlast hcell
      go_enter Tryd.func48, Tryd.ntmps48
      go_wp2_with (go_at_call 34; refine (stops_any _ _ _ _ _).mono ?_; rintro e w2 ⟨rfl, rfl⟩)
      clear c0 c1 c2 c3 hend
      go_loopw [3] (fun i wr => Cnt l.length i fun k => Below w.heap.size w wr ∧ Hid (plainB l = !(l.drop k).any (unplainB l.length))) (fun i _ => l.length - (intOf i).toNat)
      case atStart => exact ⟨0, Nat.zero_le _, rfl, Below.one' _ _, HP⟩
      case round =>
        clear HP
        obtain ⟨k, hk, rfl, hb, HV⟩ := hrel
        by_cases hlt : k < l.length
        · obtain ⟨d0, d1, d2, d3⟩ := HC.out k hlt
          rw [← hb.cell (p := ⟨b, _, none⟩) hbB] at d0 d1 d2 d3
          have HD := Lib.hid (any_drop (p := unplainB l.length) hlt)
          have HU := Lib.hid (unplain_in l.length l[k])
          have hbz := hb.size
          generalize l[k] = x at *
          obtain ⟨xo, xa, xb, xc⟩ := x
          simp only at d0 d1 d2 d3 HU
          cases h1 : inB xa 4 6 with
          | true =>
            go_wp2_with (first | (go_at_call 27; refine (In_any _ _ _ _).mono ?_; rintro e w' ⟨rfl, rfl⟩) | (go_at_call 36; refine (jumps_any _ _ _ _ _).mono ?_; rintro e w2 ⟨rfl, rfl⟩))
            go_ret
            exact ⟨ret_bool (by rw [HV.out, HD.out, HU.out]; simp [h1]), hb.alloc hbz _⟩
          | false =>
            cases h2 : inB xb 4 6 with
            | true =>
              go_wp2_with (first | (go_at_call 27; refine (In_any _ _ _ _).mono ?_; rintro e w' ⟨rfl, rfl⟩) | (go_at_call 36; refine (jumps_any _ _ _ _ _).mono ?_; rintro e w2 ⟨rfl, rfl⟩))
              go_ret
              exact ⟨ret_bool (by rw [HV.out, HD.out, HU.out]; simp [h1, h2]), hb.alloc hbz _⟩
            | false =>
              cases h3 : inB xo 2 7 && inB xc 4 6 with
              | true =>
                have h31 : inB xo 2 7 = true := by revert h3; cases inB xo 2 7 <;> simp
                have h32 : inB xc 4 6 = true := by revert h3; cases inB xo 2 7 <;> simp
                have H3 := Lib.hid h3
                clear h3
                go_wp2_with (first | (go_at_call 27; refine (In_any _ _ _ _).mono ?_; rintro e w' ⟨rfl, rfl⟩) | (go_at_call 36; refine (jumps_any _ _ _ _ _).mono ?_; rintro e w2 ⟨rfl, rfl⟩))
                go_ret
                exact ⟨ret_bool (by rw [HV.out, HD.out, HU.out]; simp [h1, h2, h31, h32]), hb.alloc hbz _⟩
              | false =>
                have H3 := Lib.hid h3
                cases h5 : inB xo 2 7 <;> cases h4 : jmpB ⟨xo, xa, xb, xc⟩
                all_goals
                  rw [h5] at h3
                  first
                    | (have h32 : inB xc 4 6 = false := by simpa using h3)
                    | skip
                  clear h3
                  go_wp2_with (first | (go_at_call 27; refine (In_any _ _ _ _).mono ?_; rintro e w' ⟨rfl, rfl⟩) | (go_at_call 36; refine (jumps_any _ _ _ _ _).mono ?_; rintro e w2 ⟨rfl, rfl⟩))
                  all_goals first
                    | (go_ret
                       exact ⟨ret_bool (by rw [HV.out, HD.out, HU.out]; simp [*]), (hb.alloc hbz _).alloc (by simp; omega) _⟩)
                    | (go_roundw
                       case rel =>
                         refine ⟨k + 1, by omega, by go_num, (hb.alloc hbz _).alloc (by simp; omega) _, ?_⟩
                         show _ = _
                         rw [HV.out, HD.out, HU.out]
                         simp [*]
                       case measure => simp [intOf]; omega)
        · go_wp2
          go_ret
          exact ⟨ret_bool (by rw [HV.out, List.drop_of_length_le (by omega)]; rfl), hb⟩
end Go.Proofs.YtdjamdbamkhblaaDoor
