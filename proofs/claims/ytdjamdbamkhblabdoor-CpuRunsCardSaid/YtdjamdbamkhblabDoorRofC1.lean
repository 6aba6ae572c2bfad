/- A round of the reference's loop, a theorem for each way (li, or, ldF, jmpA, jzB0, call4B, tell5): no condition. -/
import Derived.Test.YtdjamdbamkhblabDoorRofB
namespace Go.Proofs.YtdjamdbamkhblabDoor
open Go.RowKit
set_option linter.unusedVariables false
set_option linter.unusedSimpArgs false

set_option maxRecDepth 1000000 in
set_option maxHeartbeats 4000000 in
theorem rc_li (w1 wr : World) (gO g c n k : Nat) (A : Option Addr) (l : List Ins) (s0 s : Mc) (B T M : Value) (u : Nat → Value) (Q0 : Exit → Act → World → Prop) (hO : Blk w1 gO 35 #[.int .i64 0, .int .i64 0, .int .i64 0, .int .i64 0, .int .i64 0, .int .i64 0, .int .i64 0, .int .i64 0, .int .i64 0, .slice none 0 0, .slice none 0 0])
    (hr : RdI w1 w1.heap.size A l) (hl : l.length ≤ 200) (hcode : CodeOk l) (HX : Hid (RExit w1 gO l n s0 Q0)) (h : Ref w1 wr g s 0 B T M) (hs : McOk s) (hml : s.mem.length ≤ 1024) (hm0 : s.mem.length = s0.mem.length) (hk : k + 1 ≤ 20000) (hrn : runs l (k + 1) s = runs l n s0)
    (hp : s.pos < l.length) (x : Ins) (hx : l[s.pos] = x) (hi : InsOk x) (ho : x.op = 1) :
    Code.wp Tryd.prog rbody (Exit.then (fun a' w'' => RWI w1 gO g c A l n s0 a' w'' ∧ rmu a' w'' < k + 1) Q0) ⟨#[.slice A l.length c, u 1, u 2, .int .i64 ((k : Int) + 1), u 4, u 5, u 6, u 7, .pointer (some ⟨gO, 0, none⟩), u 9, u 10, .pointer (some ⟨g, 0, none⟩), B, .int .i64 (s.pos : Int), u 14, u 15, u 16, u 17, u 18, u 19, u 20, u 21, u 22, u 23, u 24, u 25, u 26, u 27, u 28, u 29, u 30, u 31, u 32, u 33, u 34, u 35, u 36, u 37, u 38, u 39, u 40, u 41, u 42, u 43, u 44, u 45, u 46, u 47, u 48, u 49, u 50, u 51, u 52, u 53, u 54, u 55, u 56, u 57, u 58, u 59, u 60, u 61, u 62, u 63, u 64, u 65, u 66, u 67, u 68, u 69, u 70, u 71, u 72, u 73, u 74, u 75, u 76, u 77, u 78, u 79, u 80, u 81, u 82, u 83, u 84, u 85, u 86, u 87, u 88, u 89, u 90, u 91, u 92, u 93, u 94, u 95, u 96, u 97, u 98, u 99, u 100, u 101, u 102, u 103, u 104, u 105, u 106, u 107, u 108, u 109, u 110, u 111, u 112, u 113, u 114, u 115, u 116, u 117, u 118, u 119, u 120, u 121, u 122, u 123, u 124, u 125, u 126, u 127, u 128, u 129, u 130, u 131, u 132, u 133, u 134, u 135, u 136, u 137, u 138, u 139, u 140, u 141, u 142, u 143, u 144, u 145, u 146, u 147, u 148, u 149, u 150, u 151, u 152, u 153, u 154, u 155, u 156, u 157, u 158, u 159, u 160, u 161, u 162, u 163, u 164, u 165, u 166, u 167, u 168, u 169, u 170, u 171, u 172, u 173, u 174, u 175, u 176, u 177, u 178, u 179, u 180, u 181, u 182, u 183, u 184, u 185, u 186, u 187, u 188, u 189, u 190, u 191, u 192, u 193, u 194, u 195, u 196, u 197, u 198, u 199, u 200, u 201, u 202, u 203, u 204, u 205, u 206, u 207, u 208, u 209, u 210, u 211, u 212, u 213, u 214, u 215, u 216, u 217, u 218, u 219, u 220, u 221, u 222, u 223, u 224, u 225, u 226, u 227, u 228, u 229, u 230, u 231, u 232, u 233, u 234, u 235, u 236, u 237, u 238, u 239, u 240, u 241, u 242, u 243, u 244, u 245, u 246, u 247, u 248, u 249, u 250, u 251, u 252, u 253], []⟩ wr := by
  obtain ⟨b, o, rfl, hbB, hcell⟩ := hr (by omega)
  obtain ⟨d0, d1, d2, d3⟩ := hcell s.pos hp
  rw [← h.below.cell (p := ⟨b, _, none⟩) hbB, hx] at d0 d1 d2 d3
  have hin : l[s.pos]? = some x := by rw [List.getElem?_eq_getElem hp, hx]
  have HIN := Lib.hid hin
  have HRN := Lib.hid hrn
  have HCO := Lib.hid hcode
  have HM0 := Lib.hid hm0
  obtain ⟨o1, o2, a0, a7, b0, b7, c0, cw, c7⟩ := hi
  clear hx hcell hr hin hrn hcode hm0
  obtain ⟨xo, xa, xb, xc⟩ := x
  simp only at d0 d1 d2 d3 o1 o2 a0 a7 b0 b7 c0 cw c7 ho
  obtain ⟨an, rfl⟩ : ∃ n : Nat, xa = (n : Int) := ⟨xa.toNat, by omega⟩
  obtain ⟨bn, rfl⟩ : ∃ n : Nat, xb = (n : Int) := ⟨xb.toNat, by omega⟩
  obtain ⟨cn, rfl⟩ : ∃ n : Nat, xc = (n : Int) := ⟨xc.toNat, by omega⟩
  subst ho
  have hg := h.blk.lt
  have hg1 : g < wr.heap.size + 1 := by omega
  have hlo := h.lo
  have hbg : b ≠ g := by omega
  have hbw : b < wr.heap.size := by omega
  have hbw1 : b < wr.heap.size + 1 := by omega
  have hr8 := hs.regs
  have HMO := Lib.hid hs
  obtain ⟨ps, hps⟩ : ∃ n, s.pos = n := ⟨_, rfl⟩
  have HPS := Lib.hid hps
  rw [hps] at d0 d1 d2 d3 hp
  have hp2 : (ps : Int) < (l.length : Int) := by omega
  have hk0 : ((k : Int) + 1 == 0) = false := by rw [beq_eq_false_iff_ne]; omega
  have hk1 : (k : Int) + 1 ≤ 20000 := by omega
  have hk2 : (0 : Int) ≤ (k : Int) := by omega
  have rb := (h.blk.cell (1 + bn)).trans (oc_reg bn (by omega))
  have ra := (h.blk.cell (1 + an)).trans (oc_reg an (by omega))
  have fa := h.blk.frozen (1 + an)
  obtain ⟨xv, hxv⟩ : ∃ v, s.regs.getD bn 0 = v := ⟨_, rfl⟩
  obtain ⟨yv, hyv⟩ : ∃ v, s.regs.getD cn 0 = v := ⟨_, rfl⟩
  obtain ⟨zv, hzv⟩ : ∃ v, s.regs.getD an 0 = v := ⟨_, rfl⟩
  have hxw : xv ≤ 65535 := by rw [← hxv]; exact getD_le hs.rw bn
  have hyw : yv ≤ 65535 := by rw [← hyv]; exact getD_le hs.rw cn
  rw [hxv] at rb
  rw [hzv] at ra
  unfold natV at rb ra
  have HXV : Hid (rg s (bn : Int) = xv) := hxv
  have HYV : Hid (rg s (cn : Int) = yv) := hyv
  have HZV : Hid (rg s (an : Int) = zv) := hzv
  rw [hps]
  clear hps hxv hyv hzv
  have HS : Hid (step l s = ({ s with pos := ps + 1, regs := s.regs.set an cn }, 0)) := by
    show _ = _
    unfold step
    rw [HIN.out]
    simp only
    rw [if_neg (by decide), if_neg (by decide), if_neg (by decide), if_neg (by decide), if_neg (by decide), if_neg (by decide), if_neg (by decide), if_neg (by decide), HPS.out]
    rfl
  have H := Lib.hid h
  clear h hs
  conv => arg 2; whnf
  go_wp2
  exact RWI.mk (B := B) (p := .int .i64 ((ps : Int) + 1)) rfl rfl rfl rfl rfl rfl rfl rfl (by omega) (RLoop.next (T' := T) (M' := M) HS.out HCO.out HMO.out HM0.out HRN.out (by show ((ps : Int) + 1) = ((ps + 1 : Nat) : Int); omega) (((H.out.setregE hr8 an (by omega) (rfl)).setpos (ps + 1)).later (below_al _ _)))

set_option maxRecDepth 1000000 in
set_option maxHeartbeats 4000000 in
theorem rc_or (w1 wr : World) (gO g c n k : Nat) (A : Option Addr) (l : List Ins) (s0 s : Mc) (B T M : Value) (u : Nat → Value) (Q0 : Exit → Act → World → Prop) (hO : Blk w1 gO 35 #[.int .i64 0, .int .i64 0, .int .i64 0, .int .i64 0, .int .i64 0, .int .i64 0, .int .i64 0, .int .i64 0, .int .i64 0, .slice none 0 0, .slice none 0 0])
    (hr : RdI w1 w1.heap.size A l) (hl : l.length ≤ 200) (hcode : CodeOk l) (HX : Hid (RExit w1 gO l n s0 Q0)) (h : Ref w1 wr g s 0 B T M) (hs : McOk s) (hml : s.mem.length ≤ 1024) (hm0 : s.mem.length = s0.mem.length) (hk : k + 1 ≤ 20000) (hrn : runs l (k + 1) s = runs l n s0)
    (hp : s.pos < l.length) (x : Ins) (hx : l[s.pos] = x) (hi : InsOk x) (ho : x.op = 5) :
    Code.wp Tryd.prog rbody (Exit.then (fun a' w'' => RWI w1 gO g c A l n s0 a' w'' ∧ rmu a' w'' < k + 1) Q0) ⟨#[.slice A l.length c, u 1, u 2, .int .i64 ((k : Int) + 1), u 4, u 5, u 6, u 7, .pointer (some ⟨gO, 0, none⟩), u 9, u 10, .pointer (some ⟨g, 0, none⟩), B, .int .i64 (s.pos : Int), u 14, u 15, u 16, u 17, u 18, u 19, u 20, u 21, u 22, u 23, u 24, u 25, u 26, u 27, u 28, u 29, u 30, u 31, u 32, u 33, u 34, u 35, u 36, u 37, u 38, u 39, u 40, u 41, u 42, u 43, u 44, u 45, u 46, u 47, u 48, u 49, u 50, u 51, u 52, u 53, u 54, u 55, u 56, u 57, u 58, u 59, u 60, u 61, u 62, u 63, u 64, u 65, u 66, u 67, u 68, u 69, u 70, u 71, u 72, u 73, u 74, u 75, u 76, u 77, u 78, u 79, u 80, u 81, u 82, u 83, u 84, u 85, u 86, u 87, u 88, u 89, u 90, u 91, u 92, u 93, u 94, u 95, u 96, u 97, u 98, u 99, u 100, u 101, u 102, u 103, u 104, u 105, u 106, u 107, u 108, u 109, u 110, u 111, u 112, u 113, u 114, u 115, u 116, u 117, u 118, u 119, u 120, u 121, u 122, u 123, u 124, u 125, u 126, u 127, u 128, u 129, u 130, u 131, u 132, u 133, u 134, u 135, u 136, u 137, u 138, u 139, u 140, u 141, u 142, u 143, u 144, u 145, u 146, u 147, u 148, u 149, u 150, u 151, u 152, u 153, u 154, u 155, u 156, u 157, u 158, u 159, u 160, u 161, u 162, u 163, u 164, u 165, u 166, u 167, u 168, u 169, u 170, u 171, u 172, u 173, u 174, u 175, u 176, u 177, u 178, u 179, u 180, u 181, u 182, u 183, u 184, u 185, u 186, u 187, u 188, u 189, u 190, u 191, u 192, u 193, u 194, u 195, u 196, u 197, u 198, u 199, u 200, u 201, u 202, u 203, u 204, u 205, u 206, u 207, u 208, u 209, u 210, u 211, u 212, u 213, u 214, u 215, u 216, u 217, u 218, u 219, u 220, u 221, u 222, u 223, u 224, u 225, u 226, u 227, u 228, u 229, u 230, u 231, u 232, u 233, u 234, u 235, u 236, u 237, u 238, u 239, u 240, u 241, u 242, u 243, u 244, u 245, u 246, u 247, u 248, u 249, u 250, u 251, u 252, u 253], []⟩ wr := by
  obtain ⟨b, o, rfl, hbB, hcell⟩ := hr (by omega)
  obtain ⟨d0, d1, d2, d3⟩ := hcell s.pos hp
  rw [← h.below.cell (p := ⟨b, _, none⟩) hbB, hx] at d0 d1 d2 d3
  have hin : l[s.pos]? = some x := by rw [List.getElem?_eq_getElem hp, hx]
  have HIN := Lib.hid hin
  have HRN := Lib.hid hrn
  have HCO := Lib.hid hcode
  have HM0 := Lib.hid hm0
  obtain ⟨o1, o2, a0, a7, b0, b7, c0, cw, c7⟩ := hi
  clear hx hcell hr hin hrn hcode hm0
  obtain ⟨xo, xa, xb, xc⟩ := x
  simp only at d0 d1 d2 d3 o1 o2 a0 a7 b0 b7 c0 cw c7 ho
  obtain ⟨an, rfl⟩ : ∃ n : Nat, xa = (n : Int) := ⟨xa.toNat, by omega⟩
  obtain ⟨bn, rfl⟩ : ∃ n : Nat, xb = (n : Int) := ⟨xb.toNat, by omega⟩
  obtain ⟨cn, rfl⟩ : ∃ n : Nat, xc = (n : Int) := ⟨xc.toNat, by omega⟩
  subst ho
  have hg := h.blk.lt
  have hg1 : g < wr.heap.size + 1 := by omega
  have hlo := h.lo
  have hbg : b ≠ g := by omega
  have hbw : b < wr.heap.size := by omega
  have hbw1 : b < wr.heap.size + 1 := by omega
  have hr8 := hs.regs
  have HMO := Lib.hid hs
  obtain ⟨ps, hps⟩ : ∃ n, s.pos = n := ⟨_, rfl⟩
  have HPS := Lib.hid hps
  rw [hps] at d0 d1 d2 d3 hp
  have hp2 : (ps : Int) < (l.length : Int) := by omega
  have hk0 : ((k : Int) + 1 == 0) = false := by rw [beq_eq_false_iff_ne]; omega
  have hk1 : (k : Int) + 1 ≤ 20000 := by omega
  have hk2 : (0 : Int) ≤ (k : Int) := by omega
  have rb := (h.blk.cell (1 + bn)).trans (oc_reg bn (by omega))
  have rc := (h.blk.cell (1 + cn)).trans (oc_reg cn (by omega))
  have ra := (h.blk.cell (1 + an)).trans (oc_reg an (by omega))
  have fa := h.blk.frozen (1 + an)
  obtain ⟨xv, hxv⟩ : ∃ v, s.regs.getD bn 0 = v := ⟨_, rfl⟩
  obtain ⟨yv, hyv⟩ : ∃ v, s.regs.getD cn 0 = v := ⟨_, rfl⟩
  obtain ⟨zv, hzv⟩ : ∃ v, s.regs.getD an 0 = v := ⟨_, rfl⟩
  have hxw : xv ≤ 65535 := by rw [← hxv]; exact getD_le hs.rw bn
  have hyw : yv ≤ 65535 := by rw [← hyv]; exact getD_le hs.rw cn
  rw [hxv] at rb
  rw [hyv] at rc
  rw [hzv] at ra
  unfold natV at rb rc ra
  have HXV : Hid (rg s (bn : Int) = xv) := hxv
  have HYV : Hid (rg s (cn : Int) = yv) := hyv
  have HZV : Hid (rg s (an : Int) = zv) := hzv
  rw [hps]
  clear hps hxv hyv hzv
  have hc7 : cn ≤ 7 := by omega
  have hcn : (cn : Int) < 8 := by omega
  have HS : Hid (step l s = ({ s with pos := ps + 1, regs := s.regs.set an (xv ||| yv) }, 0)) := by
    show _ = _
    unfold step
    rw [HIN.out]
    simp only
    rw [if_neg (by decide), if_neg (by decide), if_neg (by decide), if_neg (by decide), if_neg (by decide), if_neg (by decide), if_neg (by decide), if_neg (by decide), HPS.out, show ((cn : Int) % 8) = (cn : Int) by omega, HXV.out, HYV.out]
    rfl
  have b1 := i64_or_word xv yv (by omega) (by omega)
  have H := Lib.hid h
  clear h hs
  conv => arg 2; whnf
  go_wp2
  exact RWI.mk (B := B) (p := .int .i64 ((ps : Int) + 1)) rfl rfl rfl rfl rfl rfl rfl rfl (by omega) (RLoop.next (T' := T) (M' := M) HS.out HCO.out HMO.out HM0.out HRN.out (by show ((ps : Int) + 1) = ((ps + 1 : Nat) : Int); omega) (((H.out.setregE hr8 an (by omega) (rfl)).setpos (ps + 1)).later (below_al _ _)))

set_option maxRecDepth 1000000 in
set_option maxHeartbeats 4000000 in
theorem rc_ldF (w1 wr : World) (gO g c n k : Nat) (A : Option Addr) (l : List Ins) (s0 s : Mc) (B T M : Value) (u : Nat → Value) (Q0 : Exit → Act → World → Prop) (hO : Blk w1 gO 35 #[.int .i64 0, .int .i64 0, .int .i64 0, .int .i64 0, .int .i64 0, .int .i64 0, .int .i64 0, .int .i64 0, .int .i64 0, .slice none 0 0, .slice none 0 0])
    (hr : RdI w1 w1.heap.size A l) (hl : l.length ≤ 200) (hcode : CodeOk l) (HX : Hid (RExit w1 gO l n s0 Q0)) (h : Ref w1 wr g s 0 B T M) (hs : McOk s) (hml : s.mem.length ≤ 1024) (hm0 : s.mem.length = s0.mem.length) (hk : k + 1 ≤ 20000) (hrn : runs l (k + 1) s = runs l n s0)
    (hp : s.pos < l.length) (x : Ins) (hx : l[s.pos] = x) (hi : InsOk x) (ho : x.op = 8 ∧ x.c = 0 ∧ s.mem.length ≤ rg s x.b) :
    Code.wp Tryd.prog rbody (Exit.then (fun a' w'' => RWI w1 gO g c A l n s0 a' w'' ∧ rmu a' w'' < k + 1) Q0) ⟨#[.slice A l.length c, u 1, u 2, .int .i64 ((k : Int) + 1), u 4, u 5, u 6, u 7, .pointer (some ⟨gO, 0, none⟩), u 9, u 10, .pointer (some ⟨g, 0, none⟩), B, .int .i64 (s.pos : Int), u 14, u 15, u 16, u 17, u 18, u 19, u 20, u 21, u 22, u 23, u 24, u 25, u 26, u 27, u 28, u 29, u 30, u 31, u 32, u 33, u 34, u 35, u 36, u 37, u 38, u 39, u 40, u 41, u 42, u 43, u 44, u 45, u 46, u 47, u 48, u 49, u 50, u 51, u 52, u 53, u 54, u 55, u 56, u 57, u 58, u 59, u 60, u 61, u 62, u 63, u 64, u 65, u 66, u 67, u 68, u 69, u 70, u 71, u 72, u 73, u 74, u 75, u 76, u 77, u 78, u 79, u 80, u 81, u 82, u 83, u 84, u 85, u 86, u 87, u 88, u 89, u 90, u 91, u 92, u 93, u 94, u 95, u 96, u 97, u 98, u 99, u 100, u 101, u 102, u 103, u 104, u 105, u 106, u 107, u 108, u 109, u 110, u 111, u 112, u 113, u 114, u 115, u 116, u 117, u 118, u 119, u 120, u 121, u 122, u 123, u 124, u 125, u 126, u 127, u 128, u 129, u 130, u 131, u 132, u 133, u 134, u 135, u 136, u 137, u 138, u 139, u 140, u 141, u 142, u 143, u 144, u 145, u 146, u 147, u 148, u 149, u 150, u 151, u 152, u 153, u 154, u 155, u 156, u 157, u 158, u 159, u 160, u 161, u 162, u 163, u 164, u 165, u 166, u 167, u 168, u 169, u 170, u 171, u 172, u 173, u 174, u 175, u 176, u 177, u 178, u 179, u 180, u 181, u 182, u 183, u 184, u 185, u 186, u 187, u 188, u 189, u 190, u 191, u 192, u 193, u 194, u 195, u 196, u 197, u 198, u 199, u 200, u 201, u 202, u 203, u 204, u 205, u 206, u 207, u 208, u 209, u 210, u 211, u 212, u 213, u 214, u 215, u 216, u 217, u 218, u 219, u 220, u 221, u 222, u 223, u 224, u 225, u 226, u 227, u 228, u 229, u 230, u 231, u 232, u 233, u 234, u 235, u 236, u 237, u 238, u 239, u 240, u 241, u 242, u 243, u 244, u 245, u 246, u 247, u 248, u 249, u 250, u 251, u 252, u 253], []⟩ wr := by
  obtain ⟨b, o, rfl, hbB, hcell⟩ := hr (by omega)
  obtain ⟨d0, d1, d2, d3⟩ := hcell s.pos hp
  rw [← h.below.cell (p := ⟨b, _, none⟩) hbB, hx] at d0 d1 d2 d3
  have hin : l[s.pos]? = some x := by rw [List.getElem?_eq_getElem hp, hx]
  have HIN := Lib.hid hin
  have HRN := Lib.hid hrn
  have HCO := Lib.hid hcode
  have HM0 := Lib.hid hm0
  obtain ⟨o1, o2, a0, a7, b0, b7, c0, cw, c7⟩ := hi
  clear hx hcell hr hin hrn hcode hm0
  obtain ⟨xo, xa, xb, xc⟩ := x
  simp only at d0 d1 d2 d3 o1 o2 a0 a7 b0 b7 c0 cw c7 ho
  obtain ⟨an, rfl⟩ : ∃ n : Nat, xa = (n : Int) := ⟨xa.toNat, by omega⟩
  obtain ⟨bn, rfl⟩ : ∃ n : Nat, xb = (n : Int) := ⟨xb.toNat, by omega⟩
  obtain ⟨cn, rfl⟩ : ∃ n : Nat, xc = (n : Int) := ⟨xc.toNat, by omega⟩
  obtain ⟨ho, hc00, hge⟩ := ho
  subst ho
  have hg := h.blk.lt
  have hg1 : g < wr.heap.size + 1 := by omega
  have hlo := h.lo
  have hbg : b ≠ g := by omega
  have hbw : b < wr.heap.size := by omega
  have hbw1 : b < wr.heap.size + 1 := by omega
  have hr8 := hs.regs
  have HMO := Lib.hid hs
  obtain ⟨ps, hps⟩ : ∃ n, s.pos = n := ⟨_, rfl⟩
  have HPS := Lib.hid hps
  rw [hps] at d0 d1 d2 d3 hp
  have hp2 : (ps : Int) < (l.length : Int) := by omega
  have hk0 : ((k : Int) + 1 == 0) = false := by rw [beq_eq_false_iff_ne]; omega
  have hk1 : (k : Int) + 1 ≤ 20000 := by omega
  have hk2 : (0 : Int) ≤ (k : Int) := by omega
  have rb := (h.blk.cell (1 + bn)).trans (oc_reg bn (by omega))
  have rc := (h.blk.cell (1 + cn)).trans (oc_reg cn (by omega))
  have ra := (h.blk.cell (1 + an)).trans (oc_reg an (by omega))
  have fa := h.blk.frozen (1 + an)
  obtain ⟨xv, hxv⟩ : ∃ v, s.regs.getD bn 0 = v := ⟨_, rfl⟩
  obtain ⟨yv, hyv⟩ : ∃ v, s.regs.getD cn 0 = v := ⟨_, rfl⟩
  obtain ⟨zv, hzv⟩ : ∃ v, s.regs.getD an 0 = v := ⟨_, rfl⟩
  have hxw : xv ≤ 65535 := by rw [← hxv]; exact getD_le hs.rw bn
  have hyw : yv ≤ 65535 := by rw [← hyv]; exact getD_le hs.rw cn
  rw [hxv] at rb
  rw [hyv] at rc
  rw [hzv] at ra
  unfold natV at rb rc ra
  have HXV : Hid (rg s (bn : Int) = xv) := hxv
  have HYV : Hid (rg s (cn : Int) = yv) := hyv
  have HZV : Hid (rg s (an : Int) = zv) := hzv
  rw [hps]
  clear hps hxv hyv hzv
  have hcn : (cn : Int) < 8 := by omega
  clear hc00
  rw [HXV.out] at hge
  have hge2 : (s.mem.length : Int) ≤ (xv : Int) := by omega
  obtain ⟨AT, kT, rfl⟩ := own_slice h.ot
  obtain ⟨AM, kM, rfl⟩ := own_slice h.om
  have e0 := h.blk.cell 0
  have e9 := h.blk.cell 9
  have e10 := h.blk.cell 10
  simp [ocCells, natV] at e0 e9 e10
  have f0 := h.blk.frozen 0
  have r0 := (h.blk.cell (1 + 0)).trans (oc_reg 0 (by omega))
  obtain ⟨v0, hv0⟩ : ∃ v, s.regs.getD 0 0 = v := ⟨_, rfl⟩
  rw [hv0] at r0
  have r1 := (h.blk.cell (1 + 1)).trans (oc_reg 1 (by omega))
  obtain ⟨v1, hv1⟩ : ∃ v, s.regs.getD 1 0 = v := ⟨_, rfl⟩
  rw [hv1] at r1
  have r2 := (h.blk.cell (1 + 2)).trans (oc_reg 2 (by omega))
  obtain ⟨v2, hv2⟩ : ∃ v, s.regs.getD 2 0 = v := ⟨_, rfl⟩
  rw [hv2] at r2
  have r3 := (h.blk.cell (1 + 3)).trans (oc_reg 3 (by omega))
  obtain ⟨v3, hv3⟩ : ∃ v, s.regs.getD 3 0 = v := ⟨_, rfl⟩
  rw [hv3] at r3
  have r4 := (h.blk.cell (1 + 4)).trans (oc_reg 4 (by omega))
  obtain ⟨v4, hv4⟩ : ∃ v, s.regs.getD 4 0 = v := ⟨_, rfl⟩
  rw [hv4] at r4
  have r5 := (h.blk.cell (1 + 5)).trans (oc_reg 5 (by omega))
  obtain ⟨v5, hv5⟩ : ∃ v, s.regs.getD 5 0 = v := ⟨_, rfl⟩
  rw [hv5] at r5
  have r6 := (h.blk.cell (1 + 6)).trans (oc_reg 6 (by omega))
  obtain ⟨v6, hv6⟩ : ∃ v, s.regs.getD 6 0 = v := ⟨_, rfl⟩
  rw [hv6] at r6
  have r7 := (h.blk.cell (1 + 7)).trans (oc_reg 7 (by omega))
  obtain ⟨v7, hv7⟩ : ∃ v, s.regs.getD 7 0 = v := ⟨_, rfl⟩
  rw [hv7] at r7
  unfold natV at r0 r1 r2 r3 r4 r5 r6 r7
  simp at r0 r1 r2 r3 r4 r5 r6 r7
  have hW := hO.below h.below hO.lt
  have y0 := hW.cell 0
  have z0 := hW.frozen 0
  have y1 := hW.cell 1
  have z1 := hW.frozen 1
  have y2 := hW.cell 2
  have z2 := hW.frozen 2
  have y3 := hW.cell 3
  have z3 := hW.frozen 3
  have y4 := hW.cell 4
  have z4 := hW.frozen 4
  have y5 := hW.cell 5
  have z5 := hW.frozen 5
  have y6 := hW.cell 6
  have z6 := hW.frozen 6
  have y7 := hW.cell 7
  have z7 := hW.frozen 7
  have y8 := hW.cell 8
  have z8 := hW.frozen 8
  have y9 := hW.cell 9
  have z9 := hW.frozen 9
  have y10 := hW.cell 10
  have z10 := hW.frozen 10
  simp at y0 y1 y2 y3 y4 y5 y6 y7 y8 y9 y10
  have hgO := hO.lt
  have hgne : gO ≠ g := by omega
  have hgne' : g ≠ gO := by omega
  have hgOw : gO < wr.heap.size := by omega
  have hgOw1 : gO < wr.heap.size + 1 := by omega
  have HV : Hid (outL 3 s.regs (.slice AT s.told.length kT) (.slice AM s.mem.length kM) = [.int .i64 3, .int .i64 (v0 : Int), .int .i64 (v1 : Int), .int .i64 (v2 : Int), .int .i64 (v3 : Int), .int .i64 (v4 : Int), .int .i64 (v5 : Int), .int .i64 (v6 : Int), .int .i64 (v7 : Int), .slice AT s.told.length kT, .slice AM s.mem.length kM]) := by
    show _ = _
    rw [← hv0, ← hv1, ← hv2, ← hv3, ← hv4, ← hv5, ← hv6, ← hv7]
    rfl
  clear hv0 hv1 hv2 hv3 hv4 hv5 hv6 hv7
  have HW := Lib.hid hW
  clear hW
  have HS : Hid (step l s = ({ s with pos := ps + 1 }, 3)) := by
    show _ = _
    unfold step
    rw [HIN.out]
    simp only
    rw [if_pos trivial, HXV.out, if_neg (by omega), HPS.out]
  have HGE := Lib.hid hge
  clear hge
  have H := Lib.hid h
  clear h hs
  conv => arg 2; whnf
  go_wp2
  exact HX.out _ _ _ 3 (.slice AT s.told.length kT) (.slice AM s.mem.length kM) (HRN.out.symm.trans ((runs_stop (by rw [HS.out]; simp)).trans HS.out)) ((XFin.of (B := B) ((H.out.setend 3).setpos (ps + 1)) (HW.out.far (p := ⟨g, 0, none⟩) hgne _) rfl HV.out).alloc _) rfl rfl rfl rfl

set_option maxRecDepth 1000000 in
set_option maxHeartbeats 4000000 in
theorem rc_jmpA (w1 wr : World) (gO g c n k : Nat) (A : Option Addr) (l : List Ins) (s0 s : Mc) (B T M : Value) (u : Nat → Value) (Q0 : Exit → Act → World → Prop) (hO : Blk w1 gO 35 #[.int .i64 0, .int .i64 0, .int .i64 0, .int .i64 0, .int .i64 0, .int .i64 0, .int .i64 0, .int .i64 0, .int .i64 0, .slice none 0 0, .slice none 0 0])
    (hr : RdI w1 w1.heap.size A l) (hl : l.length ≤ 200) (hcode : CodeOk l) (HX : Hid (RExit w1 gO l n s0 Q0)) (h : Ref w1 wr g s 0 B T M) (hs : McOk s) (hml : s.mem.length ≤ 1024) (hm0 : s.mem.length = s0.mem.length) (hk : k + 1 ≤ 20000) (hrn : runs l (k + 1) s = runs l n s0)
    (hp : s.pos < l.length) (x : Ins) (hx : l[s.pos] = x) (hi : InsOk x) (ho : x.op = 10 ∧ x.c < 8) :
    Code.wp Tryd.prog rbody (Exit.then (fun a' w'' => RWI w1 gO g c A l n s0 a' w'' ∧ rmu a' w'' < k + 1) Q0) ⟨#[.slice A l.length c, u 1, u 2, .int .i64 ((k : Int) + 1), u 4, u 5, u 6, u 7, .pointer (some ⟨gO, 0, none⟩), u 9, u 10, .pointer (some ⟨g, 0, none⟩), B, .int .i64 (s.pos : Int), u 14, u 15, u 16, u 17, u 18, u 19, u 20, u 21, u 22, u 23, u 24, u 25, u 26, u 27, u 28, u 29, u 30, u 31, u 32, u 33, u 34, u 35, u 36, u 37, u 38, u 39, u 40, u 41, u 42, u 43, u 44, u 45, u 46, u 47, u 48, u 49, u 50, u 51, u 52, u 53, u 54, u 55, u 56, u 57, u 58, u 59, u 60, u 61, u 62, u 63, u 64, u 65, u 66, u 67, u 68, u 69, u 70, u 71, u 72, u 73, u 74, u 75, u 76, u 77, u 78, u 79, u 80, u 81, u 82, u 83, u 84, u 85, u 86, u 87, u 88, u 89, u 90, u 91, u 92, u 93, u 94, u 95, u 96, u 97, u 98, u 99, u 100, u 101, u 102, u 103, u 104, u 105, u 106, u 107, u 108, u 109, u 110, u 111, u 112, u 113, u 114, u 115, u 116, u 117, u 118, u 119, u 120, u 121, u 122, u 123, u 124, u 125, u 126, u 127, u 128, u 129, u 130, u 131, u 132, u 133, u 134, u 135, u 136, u 137, u 138, u 139, u 140, u 141, u 142, u 143, u 144, u 145, u 146, u 147, u 148, u 149, u 150, u 151, u 152, u 153, u 154, u 155, u 156, u 157, u 158, u 159, u 160, u 161, u 162, u 163, u 164, u 165, u 166, u 167, u 168, u 169, u 170, u 171, u 172, u 173, u 174, u 175, u 176, u 177, u 178, u 179, u 180, u 181, u 182, u 183, u 184, u 185, u 186, u 187, u 188, u 189, u 190, u 191, u 192, u 193, u 194, u 195, u 196, u 197, u 198, u 199, u 200, u 201, u 202, u 203, u 204, u 205, u 206, u 207, u 208, u 209, u 210, u 211, u 212, u 213, u 214, u 215, u 216, u 217, u 218, u 219, u 220, u 221, u 222, u 223, u 224, u 225, u 226, u 227, u 228, u 229, u 230, u 231, u 232, u 233, u 234, u 235, u 236, u 237, u 238, u 239, u 240, u 241, u 242, u 243, u 244, u 245, u 246, u 247, u 248, u 249, u 250, u 251, u 252, u 253], []⟩ wr := by
  obtain ⟨b, o, rfl, hbB, hcell⟩ := hr (by omega)
  obtain ⟨d0, d1, d2, d3⟩ := hcell s.pos hp
  rw [← h.below.cell (p := ⟨b, _, none⟩) hbB, hx] at d0 d1 d2 d3
  have hin : l[s.pos]? = some x := by rw [List.getElem?_eq_getElem hp, hx]
  have HIN := Lib.hid hin
  have HRN := Lib.hid hrn
  have HCO := Lib.hid hcode
  have HM0 := Lib.hid hm0
  obtain ⟨o1, o2, a0, a7, b0, b7, c0, cw, c7⟩ := hi
  clear hx hcell hr hin hrn hcode hm0
  obtain ⟨xo, xa, xb, xc⟩ := x
  simp only at d0 d1 d2 d3 o1 o2 a0 a7 b0 b7 c0 cw c7 ho
  obtain ⟨an, rfl⟩ : ∃ n : Nat, xa = (n : Int) := ⟨xa.toNat, by omega⟩
  obtain ⟨bn, rfl⟩ : ∃ n : Nat, xb = (n : Int) := ⟨xb.toNat, by omega⟩
  obtain ⟨cn, rfl⟩ : ∃ n : Nat, xc = (n : Int) := ⟨xc.toNat, by omega⟩
  obtain ⟨ho, hc00⟩ := ho
  subst ho
  have hg := h.blk.lt
  have hg1 : g < wr.heap.size + 1 := by omega
  have hlo := h.lo
  have hbg : b ≠ g := by omega
  have hbw : b < wr.heap.size := by omega
  have hbw1 : b < wr.heap.size + 1 := by omega
  have hr8 := hs.regs
  have HMO := Lib.hid hs
  obtain ⟨ps, hps⟩ : ∃ n, s.pos = n := ⟨_, rfl⟩
  have HPS := Lib.hid hps
  rw [hps] at d0 d1 d2 d3 hp
  have hp2 : (ps : Int) < (l.length : Int) := by omega
  have hk0 : ((k : Int) + 1 == 0) = false := by rw [beq_eq_false_iff_ne]; omega
  have hk1 : (k : Int) + 1 ≤ 20000 := by omega
  have hk2 : (0 : Int) ≤ (k : Int) := by omega
  have rb := (h.blk.cell (1 + bn)).trans (oc_reg bn (by omega))
  have rc := (h.blk.cell (1 + cn)).trans (oc_reg cn (by omega))
  have ra := (h.blk.cell (1 + an)).trans (oc_reg an (by omega))
  have fa := h.blk.frozen (1 + an)
  obtain ⟨xv, hxv⟩ : ∃ v, s.regs.getD bn 0 = v := ⟨_, rfl⟩
  obtain ⟨yv, hyv⟩ : ∃ v, s.regs.getD cn 0 = v := ⟨_, rfl⟩
  obtain ⟨zv, hzv⟩ : ∃ v, s.regs.getD an 0 = v := ⟨_, rfl⟩
  have hxw : xv ≤ 65535 := by rw [← hxv]; exact getD_le hs.rw bn
  have hyw : yv ≤ 65535 := by rw [← hyv]; exact getD_le hs.rw cn
  rw [hxv] at rb
  rw [hyv] at rc
  rw [hzv] at ra
  unfold natV at rb rc ra
  have HXV : Hid (rg s (bn : Int) = xv) := hxv
  have HYV : Hid (rg s (cn : Int) = yv) := hyv
  have HZV : Hid (rg s (an : Int) = zv) := hzv
  rw [hps]
  clear hps hxv hyv hzv
  have hcn : (cn : Int) < 8 := by omega
  have HS : Hid (step l s = ({ s with pos := cn }, 0)) := by
    show _ = _
    unfold step
    rw [HIN.out]
    simp only
    rw [if_neg (by decide), if_neg (by decide), if_pos trivial]
    rfl
  have H := Lib.hid h
  clear h hs
  conv => arg 2; whnf
  go_wp2
  exact RWI.mk (B := B) (p := .int .i64 (cn : Int)) rfl rfl rfl rfl rfl rfl rfl rfl (by omega) (RLoop.next (T' := T) (M' := M) HS.out HCO.out HMO.out HM0.out HRN.out (by rfl) ((H.out.setpos cn).later (below_al _ _)))

set_option maxRecDepth 1000000 in
set_option maxHeartbeats 4000000 in
theorem rc_jzB0 (w1 wr : World) (gO g c n k : Nat) (A : Option Addr) (l : List Ins) (s0 s : Mc) (B T M : Value) (u : Nat → Value) (Q0 : Exit → Act → World → Prop) (hO : Blk w1 gO 35 #[.int .i64 0, .int .i64 0, .int .i64 0, .int .i64 0, .int .i64 0, .int .i64 0, .int .i64 0, .int .i64 0, .int .i64 0, .slice none 0 0, .slice none 0 0])
    (hr : RdI w1 w1.heap.size A l) (hl : l.length ≤ 200) (hcode : CodeOk l) (HX : Hid (RExit w1 gO l n s0 Q0)) (h : Ref w1 wr g s 0 B T M) (hs : McOk s) (hml : s.mem.length ≤ 1024) (hm0 : s.mem.length = s0.mem.length) (hk : k + 1 ≤ 20000) (hrn : runs l (k + 1) s = runs l n s0)
    (hp : s.pos < l.length) (x : Ins) (hx : l[s.pos] = x) (hi : InsOk x) (ho : x.op = 11 ∧ 8 ≤ x.c ∧ rg s x.a = 0) :
    Code.wp Tryd.prog rbody (Exit.then (fun a' w'' => RWI w1 gO g c A l n s0 a' w'' ∧ rmu a' w'' < k + 1) Q0) ⟨#[.slice A l.length c, u 1, u 2, .int .i64 ((k : Int) + 1), u 4, u 5, u 6, u 7, .pointer (some ⟨gO, 0, none⟩), u 9, u 10, .pointer (some ⟨g, 0, none⟩), B, .int .i64 (s.pos : Int), u 14, u 15, u 16, u 17, u 18, u 19, u 20, u 21, u 22, u 23, u 24, u 25, u 26, u 27, u 28, u 29, u 30, u 31, u 32, u 33, u 34, u 35, u 36, u 37, u 38, u 39, u 40, u 41, u 42, u 43, u 44, u 45, u 46, u 47, u 48, u 49, u 50, u 51, u 52, u 53, u 54, u 55, u 56, u 57, u 58, u 59, u 60, u 61, u 62, u 63, u 64, u 65, u 66, u 67, u 68, u 69, u 70, u 71, u 72, u 73, u 74, u 75, u 76, u 77, u 78, u 79, u 80, u 81, u 82, u 83, u 84, u 85, u 86, u 87, u 88, u 89, u 90, u 91, u 92, u 93, u 94, u 95, u 96, u 97, u 98, u 99, u 100, u 101, u 102, u 103, u 104, u 105, u 106, u 107, u 108, u 109, u 110, u 111, u 112, u 113, u 114, u 115, u 116, u 117, u 118, u 119, u 120, u 121, u 122, u 123, u 124, u 125, u 126, u 127, u 128, u 129, u 130, u 131, u 132, u 133, u 134, u 135, u 136, u 137, u 138, u 139, u 140, u 141, u 142, u 143, u 144, u 145, u 146, u 147, u 148, u 149, u 150, u 151, u 152, u 153, u 154, u 155, u 156, u 157, u 158, u 159, u 160, u 161, u 162, u 163, u 164, u 165, u 166, u 167, u 168, u 169, u 170, u 171, u 172, u 173, u 174, u 175, u 176, u 177, u 178, u 179, u 180, u 181, u 182, u 183, u 184, u 185, u 186, u 187, u 188, u 189, u 190, u 191, u 192, u 193, u 194, u 195, u 196, u 197, u 198, u 199, u 200, u 201, u 202, u 203, u 204, u 205, u 206, u 207, u 208, u 209, u 210, u 211, u 212, u 213, u 214, u 215, u 216, u 217, u 218, u 219, u 220, u 221, u 222, u 223, u 224, u 225, u 226, u 227, u 228, u 229, u 230, u 231, u 232, u 233, u 234, u 235, u 236, u 237, u 238, u 239, u 240, u 241, u 242, u 243, u 244, u 245, u 246, u 247, u 248, u 249, u 250, u 251, u 252, u 253], []⟩ wr := by
  obtain ⟨b, o, rfl, hbB, hcell⟩ := hr (by omega)
  obtain ⟨d0, d1, d2, d3⟩ := hcell s.pos hp
  rw [← h.below.cell (p := ⟨b, _, none⟩) hbB, hx] at d0 d1 d2 d3
  have hin : l[s.pos]? = some x := by rw [List.getElem?_eq_getElem hp, hx]
  have HIN := Lib.hid hin
  have HRN := Lib.hid hrn
  have HCO := Lib.hid hcode
  have HM0 := Lib.hid hm0
  obtain ⟨o1, o2, a0, a7, b0, b7, c0, cw, c7⟩ := hi
  clear hx hcell hr hin hrn hcode hm0
  obtain ⟨xo, xa, xb, xc⟩ := x
  simp only at d0 d1 d2 d3 o1 o2 a0 a7 b0 b7 c0 cw c7 ho
  obtain ⟨an, rfl⟩ : ∃ n : Nat, xa = (n : Int) := ⟨xa.toNat, by omega⟩
  obtain ⟨bn, rfl⟩ : ∃ n : Nat, xb = (n : Int) := ⟨xb.toNat, by omega⟩
  obtain ⟨cn, rfl⟩ : ∃ n : Nat, xc = (n : Int) := ⟨xc.toNat, by omega⟩
  obtain ⟨ho, hc00, hz⟩ := ho
  subst ho
  have hg := h.blk.lt
  have hg1 : g < wr.heap.size + 1 := by omega
  have hlo := h.lo
  have hbg : b ≠ g := by omega
  have hbw : b < wr.heap.size := by omega
  have hbw1 : b < wr.heap.size + 1 := by omega
  have hr8 := hs.regs
  have HMO := Lib.hid hs
  obtain ⟨ps, hps⟩ : ∃ n, s.pos = n := ⟨_, rfl⟩
  have HPS := Lib.hid hps
  rw [hps] at d0 d1 d2 d3 hp
  have hp2 : (ps : Int) < (l.length : Int) := by omega
  have hk0 : ((k : Int) + 1 == 0) = false := by rw [beq_eq_false_iff_ne]; omega
  have hk1 : (k : Int) + 1 ≤ 20000 := by omega
  have hk2 : (0 : Int) ≤ (k : Int) := by omega
  have rb := (h.blk.cell (1 + bn)).trans (oc_reg bn (by omega))
  have ra := (h.blk.cell (1 + an)).trans (oc_reg an (by omega))
  have fa := h.blk.frozen (1 + an)
  obtain ⟨xv, hxv⟩ : ∃ v, s.regs.getD bn 0 = v := ⟨_, rfl⟩
  obtain ⟨yv, hyv⟩ : ∃ v, s.regs.getD cn 0 = v := ⟨_, rfl⟩
  obtain ⟨zv, hzv⟩ : ∃ v, s.regs.getD an 0 = v := ⟨_, rfl⟩
  have hxw : xv ≤ 65535 := by rw [← hxv]; exact getD_le hs.rw bn
  have hyw : yv ≤ 65535 := by rw [← hyv]; exact getD_le hs.rw cn
  rw [hxv] at rb
  rw [hzv] at ra
  unfold natV at rb ra
  have HXV : Hid (rg s (bn : Int) = xv) := hxv
  have HYV : Hid (rg s (cn : Int) = yv) := hyv
  have HZV : Hid (rg s (an : Int) = zv) := hzv
  rw [hps]
  clear hps hxv hyv hzv
  have hcn : (8 : Int) ≤ (cn : Int) := by omega
  rw [HZV.out] at hz
  have hzz : ((zv : Int) == 0) = true := by rw [beq_iff_eq]; omega
  have HS : Hid (step l s = ({ s with pos := cn }, 0)) := by
    show _ = _
    unfold step
    rw [HIN.out]
    simp only
    rw [if_neg (by decide), if_neg (by decide), if_neg (by decide), if_pos trivial, HZV.out, if_pos hz]
    rfl
  have HZ := Lib.hid hz
  clear hz
  have H := Lib.hid h
  clear h hs
  conv => arg 2; whnf
  go_wp2
  exact RWI.mk (B := B) (p := .int .i64 (cn : Int)) rfl rfl rfl rfl rfl rfl rfl rfl (by omega) (RLoop.next (T' := T) (M' := M) HS.out HCO.out HMO.out HM0.out HRN.out (by rfl) ((H.out.setpos (cn)).later (below_al _ _)))

set_option maxRecDepth 1000000 in
set_option maxHeartbeats 4000000 in
theorem rc_call4B (w1 wr : World) (gO g c n k : Nat) (A : Option Addr) (l : List Ins) (s0 s : Mc) (B T M : Value) (u : Nat → Value) (Q0 : Exit → Act → World → Prop) (hO : Blk w1 gO 35 #[.int .i64 0, .int .i64 0, .int .i64 0, .int .i64 0, .int .i64 0, .int .i64 0, .int .i64 0, .int .i64 0, .int .i64 0, .slice none 0 0, .slice none 0 0])
    (hr : RdI w1 w1.heap.size A l) (hl : l.length ≤ 200) (hcode : CodeOk l) (HX : Hid (RExit w1 gO l n s0 Q0)) (h : Ref w1 wr g s 0 B T M) (hs : McOk s) (hml : s.mem.length ≤ 1024) (hm0 : s.mem.length = s0.mem.length) (hk : k + 1 ≤ 20000) (hrn : runs l (k + 1) s = runs l n s0)
    (hp : s.pos < l.length) (x : Ins) (hx : l[s.pos] = x) (hi : InsOk x) (ho : x.op = 12 ∧ 8 ≤ x.c ∧ s.back.length = 16) :
    Code.wp Tryd.prog rbody (Exit.then (fun a' w'' => RWI w1 gO g c A l n s0 a' w'' ∧ rmu a' w'' < k + 1) Q0) ⟨#[.slice A l.length c, u 1, u 2, .int .i64 ((k : Int) + 1), u 4, u 5, u 6, u 7, .pointer (some ⟨gO, 0, none⟩), u 9, u 10, .pointer (some ⟨g, 0, none⟩), B, .int .i64 (s.pos : Int), u 14, u 15, u 16, u 17, u 18, u 19, u 20, u 21, u 22, u 23, u 24, u 25, u 26, u 27, u 28, u 29, u 30, u 31, u 32, u 33, u 34, u 35, u 36, u 37, u 38, u 39, u 40, u 41, u 42, u 43, u 44, u 45, u 46, u 47, u 48, u 49, u 50, u 51, u 52, u 53, u 54, u 55, u 56, u 57, u 58, u 59, u 60, u 61, u 62, u 63, u 64, u 65, u 66, u 67, u 68, u 69, u 70, u 71, u 72, u 73, u 74, u 75, u 76, u 77, u 78, u 79, u 80, u 81, u 82, u 83, u 84, u 85, u 86, u 87, u 88, u 89, u 90, u 91, u 92, u 93, u 94, u 95, u 96, u 97, u 98, u 99, u 100, u 101, u 102, u 103, u 104, u 105, u 106, u 107, u 108, u 109, u 110, u 111, u 112, u 113, u 114, u 115, u 116, u 117, u 118, u 119, u 120, u 121, u 122, u 123, u 124, u 125, u 126, u 127, u 128, u 129, u 130, u 131, u 132, u 133, u 134, u 135, u 136, u 137, u 138, u 139, u 140, u 141, u 142, u 143, u 144, u 145, u 146, u 147, u 148, u 149, u 150, u 151, u 152, u 153, u 154, u 155, u 156, u 157, u 158, u 159, u 160, u 161, u 162, u 163, u 164, u 165, u 166, u 167, u 168, u 169, u 170, u 171, u 172, u 173, u 174, u 175, u 176, u 177, u 178, u 179, u 180, u 181, u 182, u 183, u 184, u 185, u 186, u 187, u 188, u 189, u 190, u 191, u 192, u 193, u 194, u 195, u 196, u 197, u 198, u 199, u 200, u 201, u 202, u 203, u 204, u 205, u 206, u 207, u 208, u 209, u 210, u 211, u 212, u 213, u 214, u 215, u 216, u 217, u 218, u 219, u 220, u 221, u 222, u 223, u 224, u 225, u 226, u 227, u 228, u 229, u 230, u 231, u 232, u 233, u 234, u 235, u 236, u 237, u 238, u 239, u 240, u 241, u 242, u 243, u 244, u 245, u 246, u 247, u 248, u 249, u 250, u 251, u 252, u 253], []⟩ wr := by
  obtain ⟨b, o, rfl, hbB, hcell⟩ := hr (by omega)
  obtain ⟨d0, d1, d2, d3⟩ := hcell s.pos hp
  rw [← h.below.cell (p := ⟨b, _, none⟩) hbB, hx] at d0 d1 d2 d3
  have hin : l[s.pos]? = some x := by rw [List.getElem?_eq_getElem hp, hx]
  have HIN := Lib.hid hin
  have HRN := Lib.hid hrn
  have HCO := Lib.hid hcode
  have HM0 := Lib.hid hm0
  obtain ⟨o1, o2, a0, a7, b0, b7, c0, cw, c7⟩ := hi
  clear hx hcell hr hin hrn hcode hm0
  obtain ⟨xo, xa, xb, xc⟩ := x
  simp only at d0 d1 d2 d3 o1 o2 a0 a7 b0 b7 c0 cw c7 ho
  obtain ⟨an, rfl⟩ : ∃ n : Nat, xa = (n : Int) := ⟨xa.toNat, by omega⟩
  obtain ⟨bn, rfl⟩ : ∃ n : Nat, xb = (n : Int) := ⟨xb.toNat, by omega⟩
  obtain ⟨cn, rfl⟩ : ∃ n : Nat, xc = (n : Int) := ⟨xc.toNat, by omega⟩
  obtain ⟨ho, hc00, hb⟩ := ho
  subst ho
  have hg := h.blk.lt
  have hg1 : g < wr.heap.size + 1 := by omega
  have hlo := h.lo
  have hbg : b ≠ g := by omega
  have hbw : b < wr.heap.size := by omega
  have hbw1 : b < wr.heap.size + 1 := by omega
  have hr8 := hs.regs
  have HMO := Lib.hid hs
  obtain ⟨ps, hps⟩ : ∃ n, s.pos = n := ⟨_, rfl⟩
  have HPS := Lib.hid hps
  rw [hps] at d0 d1 d2 d3 hp
  have hp2 : (ps : Int) < (l.length : Int) := by omega
  have hk0 : ((k : Int) + 1 == 0) = false := by rw [beq_eq_false_iff_ne]; omega
  have hk1 : (k : Int) + 1 ≤ 20000 := by omega
  have hk2 : (0 : Int) ≤ (k : Int) := by omega
  have rb := (h.blk.cell (1 + bn)).trans (oc_reg bn (by omega))
  have ra := (h.blk.cell (1 + an)).trans (oc_reg an (by omega))
  have fa := h.blk.frozen (1 + an)
  obtain ⟨xv, hxv⟩ : ∃ v, s.regs.getD bn 0 = v := ⟨_, rfl⟩
  obtain ⟨yv, hyv⟩ : ∃ v, s.regs.getD cn 0 = v := ⟨_, rfl⟩
  obtain ⟨zv, hzv⟩ : ∃ v, s.regs.getD an 0 = v := ⟨_, rfl⟩
  have hxw : xv ≤ 65535 := by rw [← hxv]; exact getD_le hs.rw bn
  have hyw : yv ≤ 65535 := by rw [← hyv]; exact getD_le hs.rw cn
  rw [hxv] at rb
  rw [hzv] at ra
  unfold natV at rb ra
  have HXV : Hid (rg s (bn : Int) = xv) := hxv
  have HYV : Hid (rg s (cn : Int) = yv) := hyv
  have HZV : Hid (rg s (an : Int) = zv) := hzv
  rw [hps]
  clear hps hxv hyv hzv
  have hcn : (8 : Int) ≤ (cn : Int) := by omega
  have hb2 : (16 : Int) ≤ (s.back.length : Int) := by omega
  obtain ⟨AB, kB, rfl⟩ := own_slice h.ob
  obtain ⟨AT, kT, rfl⟩ := own_slice h.ot
  obtain ⟨AM, kM, rfl⟩ := own_slice h.om
  have e0 := h.blk.cell 0
  have e9 := h.blk.cell 9
  have e10 := h.blk.cell 10
  simp [ocCells, natV] at e0 e9 e10
  have f0 := h.blk.frozen 0
  have r0 := (h.blk.cell (1 + 0)).trans (oc_reg 0 (by omega))
  obtain ⟨v0, hv0⟩ : ∃ v, s.regs.getD 0 0 = v := ⟨_, rfl⟩
  rw [hv0] at r0
  have r1 := (h.blk.cell (1 + 1)).trans (oc_reg 1 (by omega))
  obtain ⟨v1, hv1⟩ : ∃ v, s.regs.getD 1 0 = v := ⟨_, rfl⟩
  rw [hv1] at r1
  have r2 := (h.blk.cell (1 + 2)).trans (oc_reg 2 (by omega))
  obtain ⟨v2, hv2⟩ : ∃ v, s.regs.getD 2 0 = v := ⟨_, rfl⟩
  rw [hv2] at r2
  have r3 := (h.blk.cell (1 + 3)).trans (oc_reg 3 (by omega))
  obtain ⟨v3, hv3⟩ : ∃ v, s.regs.getD 3 0 = v := ⟨_, rfl⟩
  rw [hv3] at r3
  have r4 := (h.blk.cell (1 + 4)).trans (oc_reg 4 (by omega))
  obtain ⟨v4, hv4⟩ : ∃ v, s.regs.getD 4 0 = v := ⟨_, rfl⟩
  rw [hv4] at r4
  have r5 := (h.blk.cell (1 + 5)).trans (oc_reg 5 (by omega))
  obtain ⟨v5, hv5⟩ : ∃ v, s.regs.getD 5 0 = v := ⟨_, rfl⟩
  rw [hv5] at r5
  have r6 := (h.blk.cell (1 + 6)).trans (oc_reg 6 (by omega))
  obtain ⟨v6, hv6⟩ : ∃ v, s.regs.getD 6 0 = v := ⟨_, rfl⟩
  rw [hv6] at r6
  have r7 := (h.blk.cell (1 + 7)).trans (oc_reg 7 (by omega))
  obtain ⟨v7, hv7⟩ : ∃ v, s.regs.getD 7 0 = v := ⟨_, rfl⟩
  rw [hv7] at r7
  unfold natV at r0 r1 r2 r3 r4 r5 r6 r7
  simp at r0 r1 r2 r3 r4 r5 r6 r7
  have hW := hO.below h.below hO.lt
  have y0 := hW.cell 0
  have z0 := hW.frozen 0
  have y1 := hW.cell 1
  have z1 := hW.frozen 1
  have y2 := hW.cell 2
  have z2 := hW.frozen 2
  have y3 := hW.cell 3
  have z3 := hW.frozen 3
  have y4 := hW.cell 4
  have z4 := hW.frozen 4
  have y5 := hW.cell 5
  have z5 := hW.frozen 5
  have y6 := hW.cell 6
  have z6 := hW.frozen 6
  have y7 := hW.cell 7
  have z7 := hW.frozen 7
  have y8 := hW.cell 8
  have z8 := hW.frozen 8
  have y9 := hW.cell 9
  have z9 := hW.frozen 9
  have y10 := hW.cell 10
  have z10 := hW.frozen 10
  simp at y0 y1 y2 y3 y4 y5 y6 y7 y8 y9 y10
  have hgO := hO.lt
  have hgne : gO ≠ g := by omega
  have hgne' : g ≠ gO := by omega
  have hgOw : gO < wr.heap.size := by omega
  have hgOw1 : gO < wr.heap.size + 1 := by omega
  have HV : Hid (outL 4 s.regs (.slice AT s.told.length kT) (.slice AM s.mem.length kM) = [.int .i64 4, .int .i64 (v0 : Int), .int .i64 (v1 : Int), .int .i64 (v2 : Int), .int .i64 (v3 : Int), .int .i64 (v4 : Int), .int .i64 (v5 : Int), .int .i64 (v6 : Int), .int .i64 (v7 : Int), .slice AT s.told.length kT, .slice AM s.mem.length kM]) := by
    show _ = _
    rw [← hv0, ← hv1, ← hv2, ← hv3, ← hv4, ← hv5, ← hv6, ← hv7]
    rfl
  clear hv0 hv1 hv2 hv3 hv4 hv5 hv6 hv7
  have HW := Lib.hid hW
  clear hW
  have HS : Hid (step l s = ({ s with pos := ps + 1 }, 4)) := by
    show _ = _
    unfold step
    rw [HIN.out]
    simp only
    rw [if_neg (by decide), if_neg (by decide), if_neg (by decide), if_neg (by decide), if_pos trivial, if_pos hb, HPS.out]
  clear hb
  have H := Lib.hid h
  clear h hs
  conv => arg 2; whnf
  go_wp2
  exact HX.out _ _ _ 4 (.slice AT s.told.length kT) (.slice AM s.mem.length kM) (HRN.out.symm.trans ((runs_stop (by rw [HS.out]; simp)).trans HS.out)) ((XFin.of (B := (.slice AB s.back.length kB)) ((H.out.setend 4).setpos (ps + 1)) (HW.out.far (p := ⟨g, 0, none⟩) hgne _) rfl HV.out).alloc _) rfl rfl rfl rfl

set_option maxRecDepth 1000000 in
set_option maxHeartbeats 4000000 in
theorem rc_tell5 (w1 wr : World) (gO g c n k : Nat) (A : Option Addr) (l : List Ins) (s0 s : Mc) (B T M : Value) (u : Nat → Value) (Q0 : Exit → Act → World → Prop) (hO : Blk w1 gO 35 #[.int .i64 0, .int .i64 0, .int .i64 0, .int .i64 0, .int .i64 0, .int .i64 0, .int .i64 0, .int .i64 0, .int .i64 0, .slice none 0 0, .slice none 0 0])
    (hr : RdI w1 w1.heap.size A l) (hl : l.length ≤ 200) (hcode : CodeOk l) (HX : Hid (RExit w1 gO l n s0 Q0)) (h : Ref w1 wr g s 0 B T M) (hs : McOk s) (hml : s.mem.length ≤ 1024) (hm0 : s.mem.length = s0.mem.length) (hk : k + 1 ≤ 20000) (hrn : runs l (k + 1) s = runs l n s0)
    (hp : s.pos < l.length) (x : Ins) (hx : l[s.pos] = x) (hi : InsOk x) (ho : x.op = 14 ∧ x.c = 0 ∧ s.told.length = 100) :
    Code.wp Tryd.prog rbody (Exit.then (fun a' w'' => RWI w1 gO g c A l n s0 a' w'' ∧ rmu a' w'' < k + 1) Q0) ⟨#[.slice A l.length c, u 1, u 2, .int .i64 ((k : Int) + 1), u 4, u 5, u 6, u 7, .pointer (some ⟨gO, 0, none⟩), u 9, u 10, .pointer (some ⟨g, 0, none⟩), B, .int .i64 (s.pos : Int), u 14, u 15, u 16, u 17, u 18, u 19, u 20, u 21, u 22, u 23, u 24, u 25, u 26, u 27, u 28, u 29, u 30, u 31, u 32, u 33, u 34, u 35, u 36, u 37, u 38, u 39, u 40, u 41, u 42, u 43, u 44, u 45, u 46, u 47, u 48, u 49, u 50, u 51, u 52, u 53, u 54, u 55, u 56, u 57, u 58, u 59, u 60, u 61, u 62, u 63, u 64, u 65, u 66, u 67, u 68, u 69, u 70, u 71, u 72, u 73, u 74, u 75, u 76, u 77, u 78, u 79, u 80, u 81, u 82, u 83, u 84, u 85, u 86, u 87, u 88, u 89, u 90, u 91, u 92, u 93, u 94, u 95, u 96, u 97, u 98, u 99, u 100, u 101, u 102, u 103, u 104, u 105, u 106, u 107, u 108, u 109, u 110, u 111, u 112, u 113, u 114, u 115, u 116, u 117, u 118, u 119, u 120, u 121, u 122, u 123, u 124, u 125, u 126, u 127, u 128, u 129, u 130, u 131, u 132, u 133, u 134, u 135, u 136, u 137, u 138, u 139, u 140, u 141, u 142, u 143, u 144, u 145, u 146, u 147, u 148, u 149, u 150, u 151, u 152, u 153, u 154, u 155, u 156, u 157, u 158, u 159, u 160, u 161, u 162, u 163, u 164, u 165, u 166, u 167, u 168, u 169, u 170, u 171, u 172, u 173, u 174, u 175, u 176, u 177, u 178, u 179, u 180, u 181, u 182, u 183, u 184, u 185, u 186, u 187, u 188, u 189, u 190, u 191, u 192, u 193, u 194, u 195, u 196, u 197, u 198, u 199, u 200, u 201, u 202, u 203, u 204, u 205, u 206, u 207, u 208, u 209, u 210, u 211, u 212, u 213, u 214, u 215, u 216, u 217, u 218, u 219, u 220, u 221, u 222, u 223, u 224, u 225, u 226, u 227, u 228, u 229, u 230, u 231, u 232, u 233, u 234, u 235, u 236, u 237, u 238, u 239, u 240, u 241, u 242, u 243, u 244, u 245, u 246, u 247, u 248, u 249, u 250, u 251, u 252, u 253], []⟩ wr := by
  obtain ⟨b, o, rfl, hbB, hcell⟩ := hr (by omega)
  obtain ⟨d0, d1, d2, d3⟩ := hcell s.pos hp
  rw [← h.below.cell (p := ⟨b, _, none⟩) hbB, hx] at d0 d1 d2 d3
  have hin : l[s.pos]? = some x := by rw [List.getElem?_eq_getElem hp, hx]
  have HIN := Lib.hid hin
  have HRN := Lib.hid hrn
  have HCO := Lib.hid hcode
  have HM0 := Lib.hid hm0
  obtain ⟨o1, o2, a0, a7, b0, b7, c0, cw, c7⟩ := hi
  clear hx hcell hr hin hrn hcode hm0
  obtain ⟨xo, xa, xb, xc⟩ := x
  simp only at d0 d1 d2 d3 o1 o2 a0 a7 b0 b7 c0 cw c7 ho
  obtain ⟨an, rfl⟩ : ∃ n : Nat, xa = (n : Int) := ⟨xa.toNat, by omega⟩
  obtain ⟨bn, rfl⟩ : ∃ n : Nat, xb = (n : Int) := ⟨xb.toNat, by omega⟩
  obtain ⟨cn, rfl⟩ : ∃ n : Nat, xc = (n : Int) := ⟨xc.toNat, by omega⟩
  obtain ⟨ho, hc00, hb⟩ := ho
  subst ho
  have hg := h.blk.lt
  have hg1 : g < wr.heap.size + 1 := by omega
  have hlo := h.lo
  have hbg : b ≠ g := by omega
  have hbw : b < wr.heap.size := by omega
  have hbw1 : b < wr.heap.size + 1 := by omega
  have hr8 := hs.regs
  have HMO := Lib.hid hs
  obtain ⟨ps, hps⟩ : ∃ n, s.pos = n := ⟨_, rfl⟩
  have HPS := Lib.hid hps
  rw [hps] at d0 d1 d2 d3 hp
  have hp2 : (ps : Int) < (l.length : Int) := by omega
  have hk0 : ((k : Int) + 1 == 0) = false := by rw [beq_eq_false_iff_ne]; omega
  have hk1 : (k : Int) + 1 ≤ 20000 := by omega
  have hk2 : (0 : Int) ≤ (k : Int) := by omega
  have rb := (h.blk.cell (1 + bn)).trans (oc_reg bn (by omega))
  have rc := (h.blk.cell (1 + cn)).trans (oc_reg cn (by omega))
  have ra := (h.blk.cell (1 + an)).trans (oc_reg an (by omega))
  have fa := h.blk.frozen (1 + an)
  obtain ⟨xv, hxv⟩ : ∃ v, s.regs.getD bn 0 = v := ⟨_, rfl⟩
  obtain ⟨yv, hyv⟩ : ∃ v, s.regs.getD cn 0 = v := ⟨_, rfl⟩
  obtain ⟨zv, hzv⟩ : ∃ v, s.regs.getD an 0 = v := ⟨_, rfl⟩
  have hxw : xv ≤ 65535 := by rw [← hxv]; exact getD_le hs.rw bn
  have hyw : yv ≤ 65535 := by rw [← hyv]; exact getD_le hs.rw cn
  rw [hxv] at rb
  rw [hyv] at rc
  rw [hzv] at ra
  unfold natV at rb rc ra
  have HXV : Hid (rg s (bn : Int) = xv) := hxv
  have HYV : Hid (rg s (cn : Int) = yv) := hyv
  have HZV : Hid (rg s (an : Int) = zv) := hzv
  rw [hps]
  clear hps hxv hyv hzv
  have hcn : (cn : Int) < 8 := by omega
  clear hc00
  have hb2 : (100 : Int) ≤ (s.told.length : Int) := by omega
  obtain ⟨AT, kT, rfl⟩ := own_slice h.ot
  obtain ⟨AM, kM, rfl⟩ := own_slice h.om
  have e0 := h.blk.cell 0
  have e9 := h.blk.cell 9
  have e10 := h.blk.cell 10
  simp [ocCells, natV] at e0 e9 e10
  have f0 := h.blk.frozen 0
  have r0 := (h.blk.cell (1 + 0)).trans (oc_reg 0 (by omega))
  obtain ⟨v0, hv0⟩ : ∃ v, s.regs.getD 0 0 = v := ⟨_, rfl⟩
  rw [hv0] at r0
  have r1 := (h.blk.cell (1 + 1)).trans (oc_reg 1 (by omega))
  obtain ⟨v1, hv1⟩ : ∃ v, s.regs.getD 1 0 = v := ⟨_, rfl⟩
  rw [hv1] at r1
  have r2 := (h.blk.cell (1 + 2)).trans (oc_reg 2 (by omega))
  obtain ⟨v2, hv2⟩ : ∃ v, s.regs.getD 2 0 = v := ⟨_, rfl⟩
  rw [hv2] at r2
  have r3 := (h.blk.cell (1 + 3)).trans (oc_reg 3 (by omega))
  obtain ⟨v3, hv3⟩ : ∃ v, s.regs.getD 3 0 = v := ⟨_, rfl⟩
  rw [hv3] at r3
  have r4 := (h.blk.cell (1 + 4)).trans (oc_reg 4 (by omega))
  obtain ⟨v4, hv4⟩ : ∃ v, s.regs.getD 4 0 = v := ⟨_, rfl⟩
  rw [hv4] at r4
  have r5 := (h.blk.cell (1 + 5)).trans (oc_reg 5 (by omega))
  obtain ⟨v5, hv5⟩ : ∃ v, s.regs.getD 5 0 = v := ⟨_, rfl⟩
  rw [hv5] at r5
  have r6 := (h.blk.cell (1 + 6)).trans (oc_reg 6 (by omega))
  obtain ⟨v6, hv6⟩ : ∃ v, s.regs.getD 6 0 = v := ⟨_, rfl⟩
  rw [hv6] at r6
  have r7 := (h.blk.cell (1 + 7)).trans (oc_reg 7 (by omega))
  obtain ⟨v7, hv7⟩ : ∃ v, s.regs.getD 7 0 = v := ⟨_, rfl⟩
  rw [hv7] at r7
  unfold natV at r0 r1 r2 r3 r4 r5 r6 r7
  simp at r0 r1 r2 r3 r4 r5 r6 r7
  have hW := hO.below h.below hO.lt
  have y0 := hW.cell 0
  have z0 := hW.frozen 0
  have y1 := hW.cell 1
  have z1 := hW.frozen 1
  have y2 := hW.cell 2
  have z2 := hW.frozen 2
  have y3 := hW.cell 3
  have z3 := hW.frozen 3
  have y4 := hW.cell 4
  have z4 := hW.frozen 4
  have y5 := hW.cell 5
  have z5 := hW.frozen 5
  have y6 := hW.cell 6
  have z6 := hW.frozen 6
  have y7 := hW.cell 7
  have z7 := hW.frozen 7
  have y8 := hW.cell 8
  have z8 := hW.frozen 8
  have y9 := hW.cell 9
  have z9 := hW.frozen 9
  have y10 := hW.cell 10
  have z10 := hW.frozen 10
  simp at y0 y1 y2 y3 y4 y5 y6 y7 y8 y9 y10
  have hgO := hO.lt
  have hgne : gO ≠ g := by omega
  have hgne' : g ≠ gO := by omega
  have hgOw : gO < wr.heap.size := by omega
  have hgOw1 : gO < wr.heap.size + 1 := by omega
  have HV : Hid (outL 5 s.regs (.slice AT s.told.length kT) (.slice AM s.mem.length kM) = [.int .i64 5, .int .i64 (v0 : Int), .int .i64 (v1 : Int), .int .i64 (v2 : Int), .int .i64 (v3 : Int), .int .i64 (v4 : Int), .int .i64 (v5 : Int), .int .i64 (v6 : Int), .int .i64 (v7 : Int), .slice AT s.told.length kT, .slice AM s.mem.length kM]) := by
    show _ = _
    rw [← hv0, ← hv1, ← hv2, ← hv3, ← hv4, ← hv5, ← hv6, ← hv7]
    rfl
  clear hv0 hv1 hv2 hv3 hv4 hv5 hv6 hv7
  have HW := Lib.hid hW
  clear hW
  have HS : Hid (step l s = ({ s with pos := ps + 1 }, 5)) := by
    show _ = _
    unfold step
    rw [HIN.out]
    simp only
    rw [if_neg (by decide), if_neg (by decide), if_neg (by decide), if_neg (by decide), if_neg (by decide), if_neg (by decide), if_pos trivial, if_pos hb, HPS.out]
  clear hb
  have H := Lib.hid h
  clear h hs
  conv => arg 2; whnf
  go_wp2
  exact HX.out _ _ _ 5 (.slice AT s.told.length kT) (.slice AM s.mem.length kM) (HRN.out.symm.trans ((runs_stop (by rw [HS.out]; simp)).trans HS.out)) ((XFin.of (B := B) ((H.out.setend 5).setpos (ps + 1)) (HW.out.far (p := ⟨g, 0, none⟩) hgne _) rfl HV.out).alloc _) rfl rfl rfl rfl
end Go.Proofs.YtdjamdbamkhblabDoor
