/- A round of the reference's loop, a theorem for each way (no fuel; no instruction): no condition. -/
import Derived.Test.YtdjamdbamkhblabDoorRofB
namespace Go.Proofs.YtdjamdbamkhblabDoor
open Go.RowKit
set_option linter.unusedVariables false
set_option linter.unusedSimpArgs false

set_option maxRecDepth 1000000 in
set_option maxHeartbeats 4000000 in
theorem rc_fuel0 (w1 wr : World) (gO g c n : Nat) (A : Option Addr) (l : List Ins) (s0 s : Mc) (B T M : Value) (u : Nat → Value) (Q0 : Exit → Act → World → Prop) (hO : Blk w1 gO 35 #[.int .i64 0, .int .i64 0, .int .i64 0, .int .i64 0, .int .i64 0, .int .i64 0, .int .i64 0, .int .i64 0, .int .i64 0, .slice none 0 0, .slice none 0 0])
    (HX : Hid (RExit w1 gO l n s0 Q0)) (h : Ref w1 wr g s 0 B T M) (hrn : runs l 0 s = runs l n s0) :
    Code.wp Tryd.prog rbody (Exit.then (fun a' w'' => RWI w1 gO g c A l n s0 a' w'' ∧ rmu a' w'' < 0) Q0) ⟨#[.slice A l.length c, u 1, u 2, .int .i64 0, u 4, u 5, u 6, u 7, .pointer (some ⟨gO, 0, none⟩), u 9, u 10, .pointer (some ⟨g, 0, none⟩), B, .int .i64 (s.pos : Int), u 14, u 15, u 16, u 17, u 18, u 19, u 20, u 21, u 22, u 23, u 24, u 25, u 26, u 27, u 28, u 29, u 30, u 31, u 32, u 33, u 34, u 35, u 36, u 37, u 38, u 39, u 40, u 41, u 42, u 43, u 44, u 45, u 46, u 47, u 48, u 49, u 50, u 51, u 52, u 53, u 54, u 55, u 56, u 57, u 58, u 59, u 60, u 61, u 62, u 63, u 64, u 65, u 66, u 67, u 68, u 69, u 70, u 71, u 72, u 73, u 74, u 75, u 76, u 77, u 78, u 79, u 80, u 81, u 82, u 83, u 84, u 85, u 86, u 87, u 88, u 89, u 90, u 91, u 92, u 93, u 94, u 95, u 96, u 97, u 98, u 99, u 100, u 101, u 102, u 103, u 104, u 105, u 106, u 107, u 108, u 109, u 110, u 111, u 112, u 113, u 114, u 115, u 116, u 117, u 118, u 119, u 120, u 121, u 122, u 123, u 124, u 125, u 126, u 127, u 128, u 129, u 130, u 131, u 132, u 133, u 134, u 135, u 136, u 137, u 138, u 139, u 140, u 141, u 142, u 143, u 144, u 145, u 146, u 147, u 148, u 149, u 150, u 151, u 152, u 153, u 154, u 155, u 156, u 157, u 158, u 159, u 160, u 161, u 162, u 163, u 164, u 165, u 166, u 167, u 168, u 169, u 170, u 171, u 172, u 173, u 174, u 175, u 176, u 177, u 178, u 179, u 180, u 181, u 182, u 183, u 184, u 185, u 186, u 187, u 188, u 189, u 190, u 191, u 192, u 193, u 194, u 195, u 196, u 197, u 198, u 199, u 200, u 201, u 202, u 203, u 204, u 205, u 206, u 207, u 208, u 209, u 210, u 211, u 212, u 213, u 214, u 215, u 216, u 217, u 218, u 219, u 220, u 221, u 222, u 223, u 224, u 225, u 226, u 227, u 228, u 229, u 230, u 231, u 232, u 233, u 234, u 235, u 236, u 237, u 238, u 239, u 240, u 241, u 242, u 243, u 244, u 245, u 246, u 247, u 248, u 249, u 250, u 251, u 252, u 253], []⟩ wr := by
  have HRN := Lib.hid hrn
  have hg := h.blk.lt
  have hlo := h.lo
  obtain ⟨AT, kT, rfl⟩ := own_slice h.ot
  obtain ⟨AM, kM, rfl⟩ := own_slice h.om
  have e0 := h.blk.cell 0
  have e9 := h.blk.cell 9
  have e10 := h.blk.cell 10
  simp [ocCells, natV] at e0 e9 e10
  have f0 := h.blk.frozen 0
  have r0 := (h.blk.cell (1 + 0)).trans (oc_reg 0 (by omega))
  obtain ⟨v0, hv0⟩ : ∃ v, s.regs.getD 0 0 = v := ⟨_, rfl⟩
  rw [hv0] at r0
  have r1 := (h.blk.cell (1 + 1)).trans (oc_reg 1 (by omega))
  obtain ⟨v1, hv1⟩ : ∃ v, s.regs.getD 1 0 = v := ⟨_, rfl⟩
  rw [hv1] at r1
  have r2 := (h.blk.cell (1 + 2)).trans (oc_reg 2 (by omega))
  obtain ⟨v2, hv2⟩ : ∃ v, s.regs.getD 2 0 = v := ⟨_, rfl⟩
  rw [hv2] at r2
  have r3 := (h.blk.cell (1 + 3)).trans (oc_reg 3 (by omega))
  obtain ⟨v3, hv3⟩ : ∃ v, s.regs.getD 3 0 = v := ⟨_, rfl⟩
  rw [hv3] at r3
  have r4 := (h.blk.cell (1 + 4)).trans (oc_reg 4 (by omega))
  obtain ⟨v4, hv4⟩ : ∃ v, s.regs.getD 4 0 = v := ⟨_, rfl⟩
  rw [hv4] at r4
  have r5 := (h.blk.cell (1 + 5)).trans (oc_reg 5 (by omega))
  obtain ⟨v5, hv5⟩ : ∃ v, s.regs.getD 5 0 = v := ⟨_, rfl⟩
  rw [hv5] at r5
  have r6 := (h.blk.cell (1 + 6)).trans (oc_reg 6 (by omega))
  obtain ⟨v6, hv6⟩ : ∃ v, s.regs.getD 6 0 = v := ⟨_, rfl⟩
  rw [hv6] at r6
  have r7 := (h.blk.cell (1 + 7)).trans (oc_reg 7 (by omega))
  obtain ⟨v7, hv7⟩ : ∃ v, s.regs.getD 7 0 = v := ⟨_, rfl⟩
  rw [hv7] at r7
  unfold natV at r0 r1 r2 r3 r4 r5 r6 r7
  simp at r0 r1 r2 r3 r4 r5 r6 r7
  have hW := hO.below h.below hO.lt
  have y0 := hW.cell 0
  have z0 := hW.frozen 0
  have y1 := hW.cell 1
  have z1 := hW.frozen 1
  have y2 := hW.cell 2
  have z2 := hW.frozen 2
  have y3 := hW.cell 3
  have z3 := hW.frozen 3
  have y4 := hW.cell 4
  have z4 := hW.frozen 4
  have y5 := hW.cell 5
  have z5 := hW.frozen 5
  have y6 := hW.cell 6
  have z6 := hW.frozen 6
  have y7 := hW.cell 7
  have z7 := hW.frozen 7
  have y8 := hW.cell 8
  have z8 := hW.frozen 8
  have y9 := hW.cell 9
  have z9 := hW.frozen 9
  have y10 := hW.cell 10
  have z10 := hW.frozen 10
  simp at y0 y1 y2 y3 y4 y5 y6 y7 y8 y9 y10
  have hgO := hO.lt
  have hgne : gO ≠ g := by omega
  have hgne' : g ≠ gO := by omega
  have hgOw : gO < wr.heap.size := by omega
  have hgOw1 : gO < wr.heap.size + 1 := by omega
  have HV : Hid (outL 2 s.regs (.slice AT s.told.length kT) (.slice AM s.mem.length kM) = [.int .i64 2, .int .i64 (v0 : Int), .int .i64 (v1 : Int), .int .i64 (v2 : Int), .int .i64 (v3 : Int), .int .i64 (v4 : Int), .int .i64 (v5 : Int), .int .i64 (v6 : Int), .int .i64 (v7 : Int), .slice AT s.told.length kT, .slice AM s.mem.length kM]) := by
    show _ = _
    rw [← hv0, ← hv1, ← hv2, ← hv3, ← hv4, ← hv5, ← hv6, ← hv7]
    rfl
  clear hv0 hv1 hv2 hv3 hv4 hv5 hv6 hv7
  have HW := Lib.hid hW
  clear hW
  have H := Lib.hid h
  clear h hrn
  conv => arg 2; whnf
  go_wp2
  exact HX.out _ _ s 2 (.slice AT s.told.length kT) (.slice AM s.mem.length kM) HRN.out.symm (XFin.of (B := B) (H.out.setend 2) (HW.out.far (p := ⟨g, 0, none⟩) hgne _) rfl HV.out) rfl rfl rfl rfl

set_option maxRecDepth 1000000 in
set_option maxHeartbeats 4000000 in
theorem rc_none (w1 wr : World) (gO g c n k : Nat) (A : Option Addr) (l : List Ins) (s0 s : Mc) (B T M : Value) (u : Nat → Value) (Q0 : Exit → Act → World → Prop) (hO : Blk w1 gO 35 #[.int .i64 0, .int .i64 0, .int .i64 0, .int .i64 0, .int .i64 0, .int .i64 0, .int .i64 0, .int .i64 0, .int .i64 0, .slice none 0 0, .slice none 0 0])
    (HX : Hid (RExit w1 gO l n s0 Q0)) (h : Ref w1 wr g s 0 B T M) (hk : k + 1 ≤ 20000) (hrn : runs l (k + 1) s = runs l n s0) (hp : l.length ≤ s.pos) (hl : l.length ≤ 200) :
    Code.wp Tryd.prog rbody (Exit.then (fun a' w'' => RWI w1 gO g c A l n s0 a' w'' ∧ rmu a' w'' < k + 1) Q0) ⟨#[.slice A l.length c, u 1, u 2, .int .i64 ((k : Int) + 1), u 4, u 5, u 6, u 7, .pointer (some ⟨gO, 0, none⟩), u 9, u 10, .pointer (some ⟨g, 0, none⟩), B, .int .i64 (s.pos : Int), u 14, u 15, u 16, u 17, u 18, u 19, u 20, u 21, u 22, u 23, u 24, u 25, u 26, u 27, u 28, u 29, u 30, u 31, u 32, u 33, u 34, u 35, u 36, u 37, u 38, u 39, u 40, u 41, u 42, u 43, u 44, u 45, u 46, u 47, u 48, u 49, u 50, u 51, u 52, u 53, u 54, u 55, u 56, u 57, u 58, u 59, u 60, u 61, u 62, u 63, u 64, u 65, u 66, u 67, u 68, u 69, u 70, u 71, u 72, u 73, u 74, u 75, u 76, u 77, u 78, u 79, u 80, u 81, u 82, u 83, u 84, u 85, u 86, u 87, u 88, u 89, u 90, u 91, u 92, u 93, u 94, u 95, u 96, u 97, u 98, u 99, u 100, u 101, u 102, u 103, u 104, u 105, u 106, u 107, u 108, u 109, u 110, u 111, u 112, u 113, u 114, u 115, u 116, u 117, u 118, u 119, u 120, u 121, u 122, u 123, u 124, u 125, u 126, u 127, u 128, u 129, u 130, u 131, u 132, u 133, u 134, u 135, u 136, u 137, u 138, u 139, u 140, u 141, u 142, u 143, u 144, u 145, u 146, u 147, u 148, u 149, u 150, u 151, u 152, u 153, u 154, u 155, u 156, u 157, u 158, u 159, u 160, u 161, u 162, u 163, u 164, u 165, u 166, u 167, u 168, u 169, u 170, u 171, u 172, u 173, u 174, u 175, u 176, u 177, u 178, u 179, u 180, u 181, u 182, u 183, u 184, u 185, u 186, u 187, u 188, u 189, u 190, u 191, u 192, u 193, u 194, u 195, u 196, u 197, u 198, u 199, u 200, u 201, u 202, u 203, u 204, u 205, u 206, u 207, u 208, u 209, u 210, u 211, u 212, u 213, u 214, u 215, u 216, u 217, u 218, u 219, u 220, u 221, u 222, u 223, u 224, u 225, u 226, u 227, u 228, u 229, u 230, u 231, u 232, u 233, u 234, u 235, u 236, u 237, u 238, u 239, u 240, u 241, u 242, u 243, u 244, u 245, u 246, u 247, u 248, u 249, u 250, u 251, u 252, u 253], []⟩ wr := by
  have HRN := Lib.hid hrn
  have hg := h.blk.lt
  have hlo := h.lo
  have hp2 : (l.length : Int) ≤ (s.pos : Int) := by omega
  have hk0 : ((k : Int) + 1 == 0) = false := by rw [beq_eq_false_iff_ne]; omega
  have hk1 : (k : Int) + 1 ≤ 20000 := by omega
  have hk2 : (0 : Int) ≤ (k : Int) := by omega
  obtain ⟨AT, kT, rfl⟩ := own_slice h.ot
  obtain ⟨AM, kM, rfl⟩ := own_slice h.om
  have e0 := h.blk.cell 0
  have e9 := h.blk.cell 9
  have e10 := h.blk.cell 10
  simp [ocCells, natV] at e0 e9 e10
  have f0 := h.blk.frozen 0
  have r0 := (h.blk.cell (1 + 0)).trans (oc_reg 0 (by omega))
  obtain ⟨v0, hv0⟩ : ∃ v, s.regs.getD 0 0 = v := ⟨_, rfl⟩
  rw [hv0] at r0
  have r1 := (h.blk.cell (1 + 1)).trans (oc_reg 1 (by omega))
  obtain ⟨v1, hv1⟩ : ∃ v, s.regs.getD 1 0 = v := ⟨_, rfl⟩
  rw [hv1] at r1
  have r2 := (h.blk.cell (1 + 2)).trans (oc_reg 2 (by omega))
  obtain ⟨v2, hv2⟩ : ∃ v, s.regs.getD 2 0 = v := ⟨_, rfl⟩
  rw [hv2] at r2
  have r3 := (h.blk.cell (1 + 3)).trans (oc_reg 3 (by omega))
  obtain ⟨v3, hv3⟩ : ∃ v, s.regs.getD 3 0 = v := ⟨_, rfl⟩
  rw [hv3] at r3
  have r4 := (h.blk.cell (1 + 4)).trans (oc_reg 4 (by omega))
  obtain ⟨v4, hv4⟩ : ∃ v, s.regs.getD 4 0 = v := ⟨_, rfl⟩
  rw [hv4] at r4
  have r5 := (h.blk.cell (1 + 5)).trans (oc_reg 5 (by omega))
  obtain ⟨v5, hv5⟩ : ∃ v, s.regs.getD 5 0 = v := ⟨_, rfl⟩
  rw [hv5] at r5
  have r6 := (h.blk.cell (1 + 6)).trans (oc_reg 6 (by omega))
  obtain ⟨v6, hv6⟩ : ∃ v, s.regs.getD 6 0 = v := ⟨_, rfl⟩
  rw [hv6] at r6
  have r7 := (h.blk.cell (1 + 7)).trans (oc_reg 7 (by omega))
  obtain ⟨v7, hv7⟩ : ∃ v, s.regs.getD 7 0 = v := ⟨_, rfl⟩
  rw [hv7] at r7
  unfold natV at r0 r1 r2 r3 r4 r5 r6 r7
  simp at r0 r1 r2 r3 r4 r5 r6 r7
  have hW := hO.below h.below hO.lt
  have y0 := hW.cell 0
  have z0 := hW.frozen 0
  have y1 := hW.cell 1
  have z1 := hW.frozen 1
  have y2 := hW.cell 2
  have z2 := hW.frozen 2
  have y3 := hW.cell 3
  have z3 := hW.frozen 3
  have y4 := hW.cell 4
  have z4 := hW.frozen 4
  have y5 := hW.cell 5
  have z5 := hW.frozen 5
  have y6 := hW.cell 6
  have z6 := hW.frozen 6
  have y7 := hW.cell 7
  have z7 := hW.frozen 7
  have y8 := hW.cell 8
  have z8 := hW.frozen 8
  have y9 := hW.cell 9
  have z9 := hW.frozen 9
  have y10 := hW.cell 10
  have z10 := hW.frozen 10
  simp at y0 y1 y2 y3 y4 y5 y6 y7 y8 y9 y10
  have hgO := hO.lt
  have hgne : gO ≠ g := by omega
  have hgne' : g ≠ gO := by omega
  have hgOw : gO < wr.heap.size := by omega
  have hgOw1 : gO < wr.heap.size + 1 := by omega
  have HV : Hid (outL 3 s.regs (.slice AT s.told.length kT) (.slice AM s.mem.length kM) = [.int .i64 3, .int .i64 (v0 : Int), .int .i64 (v1 : Int), .int .i64 (v2 : Int), .int .i64 (v3 : Int), .int .i64 (v4 : Int), .int .i64 (v5 : Int), .int .i64 (v6 : Int), .int .i64 (v7 : Int), .slice AT s.told.length kT, .slice AM s.mem.length kM]) := by
    show _ = _
    rw [← hv0, ← hv1, ← hv2, ← hv3, ← hv4, ← hv5, ← hv6, ← hv7]
    rfl
  clear hv0 hv1 hv2 hv3 hv4 hv5 hv6 hv7
  have HW := Lib.hid hW
  clear hW
  have HS : Hid (step l s = (s, 3)) := by
    show _ = _
    unfold step
    rw [List.getElem?_eq_none hp]
  have H := Lib.hid h
  clear h hrn
  conv => arg 2; whnf
  go_wp2
  exact HX.out _ _ s 3 (.slice AT s.told.length kT) (.slice AM s.mem.length kM) (HRN.out.symm.trans ((runs_stop (by rw [HS.out]; simp)).trans HS.out)) (XFin.of (B := B) (H.out.setend 3) (HW.out.far (p := ⟨g, 0, none⟩) hgne _) rfl HV.out) rfl rfl rfl rfl
end Go.Proofs.YtdjamdbamkhblabDoor
