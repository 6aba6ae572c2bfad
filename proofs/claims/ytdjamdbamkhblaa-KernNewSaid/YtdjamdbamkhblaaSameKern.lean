/- The walk of the laws' comparison of two kernels that read the same: it answers true. -/
import Derived.Test.YtdjamdbamkhblaaOwn
import Derived.Test.YtdjamdbamkhblaaKernData
namespace Go.Proofs.Ytdjamdbamkhblaa
open Go.RowKit

/-- The two boxes of the comparison. -/
structure Two (w0 wr : World) (a a' : KA) (k : Krn) : Prop where
  below : Below w0.heap.size w0 wr
  lt : w0.heap.size + 1 < wr.heap.size
  b0 : BoxK wr w0.heap.size a k
  b1 : BoxK wr (w0.heap.size + 1) a' k
theorem Two.next {w0 wr wx : World} {a a' : KA} {k : Krn} (h : Two w0 wr a a' k) (hb : Below wr.heap.size wr wx) : Two w0 wx a a' k :=
  ⟨h.below.trans (hb.mono h.below.size), Nat.lt_of_lt_of_le h.lt hb.size, h.b0.below hb (Nat.lt_of_succ_lt h.lt), h.b1.below hb h.lt⟩
theorem Two.drewN {w0 wr : World} {a a' : KA} {k : Krn} (h : Two w0 wr a a' k) (n : Nat) : Two w0 (wr.drewN n) a a' k := h.next (below_drewN wr n)

set_option maxRecDepth 100000 in
set_option maxHeartbeats 8000000 in
theorem sameKernel_any (k : Krn) (a a' : KA) (w : World) (hk : KrnAt w w.heap.size a k) (hk' : KrnAt w w.heap.size a' k) :
    Calls Try.prog 13 #[.agg (a.cells k), .agg (a'.cells k)] w fun e w' => e = .returned (.bool true) ∧ Below w.heap.size w w' := by
  have hW : Below w.heap.size w ((w.alloc (.cells (a.cells k) 35)).alloc (.cells (a'.cells k) 35)) := ((Below.refl w.heap.size w).alloc (Nat.le_refl _) _).alloc (by simp) _
  have hT : Two w ((w.alloc (.cells (a.cells k) 35)).alloc (.cells (a'.cells k) 35)) a a' k :=
    ⟨hW, by simp, ⟨by simp [KA.cells], by simp [KA.cells], by simp [KA.cells], by simp [KA.cells], by simp [KA.cells]⟩, ⟨by simp [KA.cells], by simp [KA.cells], by simp [KA.cells], by simp [KA.cells], by simp [KA.cells]⟩⟩
  have HT := Lib.hid hT
  have HW := Lib.hid hW
  have l0 : k.mods.length ≤ 9223372036854775807 := by have := hk.l0; omega
  have l1 : k.mem.length ≤ maxLen := by have := hk.l1; simp [maxLen]; omega
  have l2 : k.nodes.length ≤ 9223372036854775807 := by have := hk.l2; omega
  have l3 : k.pipes.length ≤ 9223372036854775807 := by have := hk.l3; omega
  have l4 : k.procs.length ≤ 9223372036854775807 := by have := hk.l4; omega
  have HK := Lib.hid hk
  have HK' := Lib.hid hk'
  clear hT hW hk hk'
  unfold KA.cells
  go_enter Try.func13, Try.ntmps13
  go_wp2_with (go_at_call 21; refine (sameInts_any a.a1 a'.a1 a.c1 a'.c1 k.mem _ ?h1 ?h2 l1).mono ?_; (case h1 => exact (HK.out.mem.below HW.out).more HW.out.size); (case h2 => exact (HK'.out.mem.below HW.out).more HW.out.size); rintro e w1 ⟨rfl, n1, rfl⟩)
  go_loopw [5] (fun i wr => Cnt k.mods.length i fun _ => Two w wr a a' k) (fun i _ => k.mods.length - (intOf i).toNat)
  case atStart => exact ⟨0, Nat.zero_le _, rfl, HT.out.drewN _⟩
  case round =>
    obtain ⟨i, hi, rfl, hT⟩ := hrel
    obtain ⟨⟨x0, x1, x2, x3, x4⟩, hlt, ⟨y0, y1, y2, y3, y4⟩⟩ := And.intro hT.b0 (And.intro hT.lt hT.b1)
    have HT1 := Lib.hid hT
    clear hT
    by_cases hil : i < k.mods.length
    · obtain ⟨b, o, e1, hb, hc⟩ := (HK.out.mods.below HT1.out.below) (by omega)
      obtain ⟨b', o', e1', hb', hc'⟩ := (HK'.out.mods.below HT1.out.below) (by omega)
      obtain ⟨A1, c1, A2, c2, z0, z1, z2, z3⟩ := hc i hil
      obtain ⟨A1', c1', A2', c2', z0', z1', z2', z3'⟩ := hc' i hil
      rw [e1] at x0
      rw [e1'] at y0
      clear hc hc' e1 e1'
      have hsz := HT1.out.below.size
      have Z3 := Lib.hid (z3.more hsz)
      have Z3' := Lib.hid (z3'.more hsz)
      have q0 : b < wr.heap.size := by omega
      have q1 : b' < wr.heap.size := by omega
      have q2 : w.heap.size < wr.heap.size := by omega
      clear z3 z3' hsz hb hb'
      generalize k.mods[i] = m at *
      go_wp2_with fail
      go_region_held3 (fun w' => w'.cell? ⟨w.heap.size, 0, none⟩ = some (.slice (some ⟨b, o, none⟩) k.mods.length a.c0) ∧ w'.cell? ⟨w.heap.size + 1, 0, none⟩ = some (.slice (some ⟨b', o', none⟩) k.mods.length a'.c0) ∧
          w'.cell? ⟨b, o + i * 3, none⟩ = some (.string m.name) ∧ w'.cell? ⟨b, o + i * 3 + 1, none⟩ = some (.slice A1 m.code.length c1) ∧ w'.cell? ⟨b, o + i * 3 + 2, none⟩ = some (.slice A2 m.data.length c2) ∧
          w'.cell? ⟨b', o' + i * 3, none⟩ = some (.string m.name) ∧ w'.cell? ⟨b', o' + i * 3 + 1, none⟩ = some (.slice A1' m.code.length c1') ∧ w'.cell? ⟨b', o' + i * 3 + 2, none⟩ = some (.slice A2' m.data.length c2'))
        (first
          | (go_split_ands; refine ⟨?_, ?_, ?_, ?_, ?_, ?_, ?_, ?_⟩ <;> exact (hq1 _ _ (by assumption)).trans (by assumption))
          | go_keep)
        (first
          | (go_at_call 15; refine (sameModule_any m A1 A2 A1' A2' c1 c2 c1' c2' wr.drew Z3.out.code Z3'.out.code Z3.out.data Z3'.out.data ?h1 ?h2).mono ?_; (case h1 => have := Z3.out.cl; simp [maxLen]; omega); (case h2 => have := Z3.out.dl; simp [maxLen]; omega); rintro e w1 ⟨rfl, hb1⟩; have hq1 : ∀ b o, b < wr.heap.size → w1.cell? ⟨b, o, none⟩ = wr.cell? ⟨b, o, none⟩ := (bcell hb1).1))
      have hT2 := Lib.hid (HT1.out.next (wx := w1) ((Below.refl wr.heap.size wr).drew.trans hb1))
      go_wp2
      exact ⟨⟨i + 1, by omega, by go_num, hT2.out⟩, by simp [intOf]; omega⟩
    · go_wp2
      go_loopw [6] (fun i wr => Cnt k.nodes.length i fun _ => Two w wr a a' k) (fun i _ => k.nodes.length - (intOf i).toNat)
      case atStart => exact ⟨0, Nat.zero_le _, rfl, HT1.out⟩
      case round =>
        clear x0 x1 x2 x3 x4 y0 y1 y2 y3 y4 hlt
        clear HT1
        obtain ⟨i, hi, rfl, hT⟩ := hrel
        obtain ⟨⟨x0, x1, x2, x3, x4⟩, hlt, ⟨y0, y1, y2, y3, y4⟩⟩ := And.intro hT.b0 (And.intro hT.lt hT.b1)
        have HT1 := Lib.hid hT
        clear hT
        by_cases hil : i < k.nodes.length
        · obtain ⟨b, o, e1, hb, hc⟩ := (HK.out.nodes.below HT1.out.below) (by omega)
          obtain ⟨b', o', e1', hb', hc'⟩ := (HK'.out.nodes.below HT1.out.below) (by omega)
          obtain ⟨z0, z1, z2, z3⟩ := hc i hil
          obtain ⟨z0', z1', z2', z3'⟩ := hc' i hil
          rw [e1] at x2
          rw [e1'] at y2
          clear hc hc' e1 e1'
          generalize k.nodes[i] = m at *
          go_wp2_with fail
          go_quiet (fail)
          go_wp2
          exact ⟨⟨i + 1, by omega, by go_num, HT1.out.drewN _⟩, by simp [intOf]; omega⟩
        · go_wp2
          go_loopw [7] (fun i wr => Cnt k.pipes.length i fun _ => Two w wr a a' k) (fun i _ => k.pipes.length - (intOf i).toNat)
          case atStart => exact ⟨0, Nat.zero_le _, rfl, HT1.out⟩
          case round =>
            clear x0 x1 x2 x3 x4 y0 y1 y2 y3 y4 hlt
            clear HT1
            obtain ⟨i, hi, rfl, hT⟩ := hrel
            obtain ⟨⟨x0, x1, x2, x3, x4⟩, hlt, ⟨y0, y1, y2, y3, y4⟩⟩ := And.intro hT.b0 (And.intro hT.lt hT.b1)
            have HT1 := Lib.hid hT
            clear hT
            by_cases hil : i < k.pipes.length
            · obtain ⟨b, o, e1, hb, hc⟩ := (HK.out.pipes.below HT1.out.below) (by omega)
              obtain ⟨b', o', e1', hb', hc'⟩ := (HK'.out.pipes.below HT1.out.below) (by omega)
              have z0 := hc i hil
              have z0' := hc' i hil
              rw [e1] at x3
              rw [e1'] at y3
              clear hc hc' e1 e1'
              generalize k.pipes[i] = m at *
              go_wp2_with fail
              go_quiet (fail)
              go_wp2
              exact ⟨⟨i + 1, by omega, by go_num, HT1.out.drewN _⟩, by simp [intOf]; omega⟩
            · go_wp2
              go_loopw [8, 9] (fun i _ wr => Cnt k.procs.length i fun _ => Two w wr a a' k) (fun i _ _ => k.procs.length - (intOf i).toNat)
              case atStart => exact ⟨0, Nat.zero_le _, rfl, HT1.out⟩
              case round =>
                clear x0 x1 x2 x3 x4 y0 y1 y2 y3 y4 hlt
                clear HT1
                obtain ⟨i, hi, rfl, hT⟩ := hrel
                obtain ⟨⟨x0, x1, x2, x3, x4⟩, hlt, ⟨y0, y1, y2, y3, y4⟩⟩ := And.intro hT.b0 (And.intro hT.lt hT.b1)
                have HT1 := Lib.hid hT
                clear hT
                by_cases hil : i < k.procs.length
                · obtain ⟨b, o, e1, hb, hc⟩ := (HK.out.procs.below HT1.out.below) (by omega)
                  obtain ⟨b', o', e1', hb', hc'⟩ := (HK'.out.procs.below HT1.out.below) (by omega)
                  obtain ⟨A1, c1, z0, z1, z2⟩ := hc i hil
                  obtain ⟨A1', c1', z0', z1', z2'⟩ := hc' i hil
                  have Z2 := Lib.hid z2
                  have Z2' := Lib.hid z2'
                  rw [e1] at x4
                  rw [e1'] at y4
                  clear hc hc' e1 e1' z2 z2'
                  generalize k.procs[i] = m at *
                  have le : m.ends.length ≤ 9223372036854775807 := by have := Z2.out.el; omega
                  go_wp2_with fail
                  go_quiet (fail)
                  go_wp2
                  obtain ⟨wo, rfl⟩ : ∃ wo : World, wo = wr := ⟨_, rfl⟩
                  go_loopw [9] (fun j wx => Cnt m.ends.length j fun _ => Two w wx a a' k ∧ Below wo.heap.size wo wx) (fun j _ => m.ends.length - (intOf j).toNat)
                  case atStart => exact ⟨0, Nat.zero_le _, rfl, HT1.out.drewN _, below_drewN wo _⟩
                  case round =>
                    clear x0 x1 x2 x3 y0 y1 y2 y3 hlt
                    obtain ⟨j, hj, rfl, hT, hbx⟩ := hrel
                    have hz := HT1.out.lt
                    have hzz := HT1.out.below.size
                    have u0 := (hbx.cell (p := ⟨w.heap.size, 4, none⟩) (by simp; omega)).trans x4
                    have u1 := (hbx.cell (p := ⟨w.heap.size + 1, 4, none⟩) (by simp; omega)).trans y4
                    have u2 := (hbx.cell (p := ⟨b, o + i * 2 + 1, none⟩) (by simp; omega)).trans z1
                    have u3 := (hbx.cell (p := ⟨b', o' + i * 2 + 1, none⟩) (by simp; omega)).trans z1'
                    have HT2 := Lib.hid hT
                    clear hT x4 y4 z0 z1 z0' z1'
                    by_cases hjl : j < m.ends.length
                    · obtain ⟨d, q, e1, hd, hc⟩ := (Z2.out.ends.below (hbx.mono hzz)) (by omega)
                      obtain ⟨d', q', e1', hd', hc'⟩ := (Z2'.out.ends.below (hbx.mono hzz)) (by omega)
                      obtain ⟨v0, v1, v2⟩ := hc j hjl
                      obtain ⟨v0', v1', v2'⟩ := hc' j hjl
                      rw [e1] at u2
                      rw [e1'] at u3
                      have HBX := Lib.hid hbx
                      clear hc hc' e1 e1' hz hzz hbx
                      generalize m.ends[j] = x at *
                      go_wp2_with fail
                      go_quiet (fail)
                      go_wp2
                      exact ⟨⟨j + 1, by omega, by go_num, HT2.out.drewN _, (HBX.out.trans ((below_drewN _ _).mono HBX.out.size))⟩, by simp [intOf]; omega⟩
                    · have HBX := Lib.hid hbx
                      clear hz hzz hbx
                      go_wp2
                      exact ⟨⟨i + 1, by omega, by go_num, HT2.out⟩, by simp [intOf]; omega⟩
                · go_wp2
                  go_ret
                  exact ⟨rfl, HT1.out.below⟩
end Go.Proofs.Ytdjamdbamkhblaa
