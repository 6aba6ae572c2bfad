/- The walk of the reference's HasEnd. -/
import Derived.Test.YtdjamdbamkhblabDoorHas
import Derived.Test.YtdjamdbamkhblabDoorKCheck
namespace Go.Proofs.YtdjamdbamkhblabDoor
open Go.RowKit
set_option linter.unusedVariables false
set_option linter.unusedSimpArgs false
theorem any_drop {α : Type} {p : α → Bool} {l : List α} {n : Nat} (h : n < l.length) : (l.drop n).any p = (p l[n] || (l.drop (n + 1)).any p) := by
  rw [List.drop_eq_getElem_cons h, List.any_cons]
set_option maxHeartbeats 1000000 in
theorem HasEnd_any (V0 V1 V2 V3 : Value) (A : Option Addr) (c : Nat) (ps : List Prc) (kind pl : Int) (w : World) (hr : RdP w w.heap.size A ps) (hl : ps.length ≤ maxLen) :
    Calls Tryd.prog 71 #[.agg #[V0, V1, V2, V3, .slice A ps.length c], .int .i64 kind, .int .i64 pl] w fun e w' => e = .returned (.bool (hasE ps kind pl)) ∧ Below w.heap.size w w' := by
  unfold maxLen at hl
  have hB0 := below_box w (.cells #[V0, V1, V2, V3, .slice A ps.length c] 60)
  have HR := Lib.hid ((hr.below hB0).more hB0.size)
  have HX := Lib.hid (Blk.new w 60 #[V0, V1, V2, V3, .slice A ps.length c])
  have hlt0 := HX.out.lt
  have HB := Lib.hid hB0
  clear hr hB0
  go_enter Tryd.func71, Tryd.ntmps71
  go_wp2
  generalize w.alloc (.cells #[V0, V1, V2, V3, .slice A ps.length c] 60) = W0 at *
  go_loopw [7] (fun i wr => Cnt ps.length i fun n => Below W0.heap.size W0 wr ∧ Hid (hasE ps kind pl = (ps.drop n).any (hasP kind pl))) (fun i _ => ps.length - (intOf i).toNat)
  case atStart => exact ⟨0, Nat.zero_le _, rfl, Below.refl _ _, rfl⟩
  case round =>
    obtain ⟨n, hn, rfl, hb, HE⟩ := hrel
    have c4 := (HX.out.below hb hlt0).cell 4
    simp at c4
    by_cases hlt : n < ps.length
    · obtain ⟨b, o, rfl, hbB, hcell⟩ := (HR.out.below hb) (by omega)
      obtain ⟨A1, c1, z0, z1, hz⟩ := hcell n hlt
      obtain ⟨x, hx⟩ : ∃ x, x = ps[n] := ⟨_, rfl⟩
      have HD := Lib.hid (any_drop (p := hasP kind pl) hlt)
      rw [← hx] at z0 z1 hz HD
      have hbs : b < wr.heap.size := Nat.lt_of_lt_of_le hbB hb.size
      have hel : x.ends.length ≤ 9223372036854775807 := by have := hz.el; omega
      have HZ := Lib.hid ((hz.ends.more hb.size))
      have HW := Lib.hid hb
      have hkw : w.heap.size < wr.heap.size := Nat.lt_of_lt_of_le hlt0 hb.size
      clear hcell hz hb hx
      go_wp2
      obtain ⟨wo, rfl⟩ : ∃ wo, wo = wr := ⟨_, rfl⟩
      go_loopw [8] (fun i wq => Cnt x.ends.length i fun m => Below wo.heap.size wo wq ∧ Hid (hasP kind pl x = (x.ends.drop m).any fun y => (y.kind == kind) && (y.node == pl))) (fun i _ => x.ends.length - (intOf i).toNat)
      case atStart => exact ⟨0, Nat.zero_le _, rfl, Below.refl _ _, rfl⟩
      case round =>
        obtain ⟨m, hm, rfl, hbq, HQ⟩ := hrel
        have c4q := (hbq.cell (p := ⟨w.heap.size, 4, none⟩) hkw).trans c4
        have z1q := (hbq.cell (p := ⟨b, _, none⟩) hbs).trans z1
        have hbs' : b < wr.heap.size := Nat.lt_of_lt_of_le hbs hbq.size
        have hkw' : w.heap.size < wr.heap.size := Nat.lt_of_lt_of_le hkw hbq.size
        by_cases hlm : m < x.ends.length
        · obtain ⟨b', o', rfl, hbB', hcell'⟩ := (HZ.out.below hbq) (by omega)
          obtain ⟨y0, y1, y2⟩ := hcell' m hlm
          obtain ⟨y, hy⟩ : ∃ y, y = x.ends[m] := ⟨_, rfl⟩
          have HDQ := Lib.hid (any_drop (p := fun y => (y.kind == kind) && (y.node == pl)) hlm)
          rw [← hy] at y0 y1 y2 HDQ
          have hbs2 : b' < wr.heap.size := Nat.lt_of_lt_of_le hbB' hbq.size
          have hbx := below_box wr (.cells #[.int .i64 y.kind, .int .i64 y.node, .int .i64 y.pos] 104)
          have HW2 := Lib.hid (hbq.trans (hbx.mono hbq.size))
          clear hcell' hbq hy hbx c4 z1 z0
          cases hk : ((y.kind == kind) && (y.node == pl)) with
          | true =>
            have HF : Hid (hasE ps kind pl = true) := by show _ = _; rw [HE.out, HD.out, HQ.out, HDQ.out, hk]; rfl
            obtain ⟨hk1, hk2⟩ := Bool.and_eq_true_iff.1 hk
            have hf := HB.out.trans ((HW.out.trans (HW2.out.mono HW.out.size)).mono (Nat.le_of_lt hlt0))
            clear hk
            go_wp2
            go_ret
            exact ⟨ret_bool HF.out.symm, hf⟩
          | false =>
            have HG : Hid (hasP kind pl x = (x.ends.drop (m + 1)).any fun y => (y.kind == kind) && (y.node == pl)) := by show _ = _; rw [HQ.out, HDQ.out, hk]; rfl
            cases hk1 : (y.kind == kind) with
            | false =>
              clear hk
              go_wp2
              go_roundw
              case rel => exact ⟨m + 1, by omega, by go_num, HW2.out, HG⟩
              case measure => simp [intOf]; omega
            | true =>
              have hk2 : (y.node == pl) = false := by rw [hk1] at hk; simpa using hk
              clear hk
              go_wp2
              go_roundw
              case rel => exact ⟨m + 1, by omega, by go_num, HW2.out, HG⟩
              case measure => simp [intOf]; omega
        · have HG : Hid (hasE ps kind pl = (ps.drop (n + 1)).any (hasP kind pl)) := by
            show _ = _
            rw [HE.out, HD.out, HQ.out, List.drop_of_length_le (by omega)]
            rfl
          have HF := HW.out.trans (hbq.mono HW.out.size)
          clear HQ hbq
          go_wp2
          go_roundw
          case rel => exact ⟨n + 1, by omega, by go_num, HF, HG⟩
          case measure => simp [intOf]; omega
    · have HF : Hid (hasE ps kind pl = false) := by show _ = _; rw [HE.out, List.drop_of_length_le (by omega)]; rfl
      have hf := HB.out.trans (hb.mono (Nat.le_of_lt hlt0))
      clear HE hb
      go_wp2
      go_ret
      exact ⟨ret_bool HF.out.symm, hf⟩
end Go.Proofs.YtdjamdbamkhblabDoor
