/- The walk of the machine's loads and stores: no condition. -/
import Derived.Test.YtdjamdbamkhblabDoorMach
import Derived.Deep.RegionLaw
namespace Go.Proofs.YtdjamdbamkhblabDoor
open Go.RowKit

def touchMc (s : Mc) (i : Ins) : Mc :=
  if rg s i.b < s.mem.length then (if i.op = 8 then { s with regs := s.regs.set i.a.toNat (s.mem.getD (rg s i.b) 0) } else { s with mem := s.mem.set (rg s i.b) (rg s i.a) }) else s
def TouchPost (w0 : World) (g : Nat) (C : Value) (s : Mc) (i : Ins) (en : Nat) (B T M : Value) (e : Ending) (w' : World) : Prop :=
  ∃ z : Int, Hid (z = if rg s i.b < s.mem.length then 0 else 3) ∧ e = .returned (.int .i64 z) ∧ Mach w0 w' g C (touchMc s i) en B T M
set_option maxHeartbeats 4000000 in
theorem touch_any (w0 : World) (g en : Nat) (C B T M : Value) (s : Mc) (i : Ins) (w : World) (h : Mach w0 w g C s en B T M) (hs : McOk s) (hi : InsOk i) (ho : i.op = 8 ∨ i.op = 9) (hml : s.mem.length ≤ 1024) :
    Calls Tryd.prog 83 #[.pointer (some ⟨g, 0, none⟩), i.val] w (TouchPost w0 g C s i en B T M) := by
  obtain ⟨o1, o2, a0, a7, b0, b7, c0, cw, c7⟩ := hi
  obtain ⟨o, a, b, c⟩ := i
  simp only at o1 o2 a0 a7 b0 b7 c0 cw c7 ho ⊢
  unfold Ins.val
  simp only
  obtain ⟨bn, rfl⟩ : ∃ n : Nat, b = (n : Int) := ⟨b.toNat, by omega⟩
  obtain ⟨an, rfl⟩ : ∃ n : Nat, a = (n : Int) := ⟨a.toNat, by omega⟩
  have hr8 := hs.regs
  have hbn : (bn : Int) < 8 := by omega
  have han : (an : Int) < 8 := by omega
  have e1 := (h.blk.cell (4 + bn)).trans (mc_reg bn (by omega))
  have e2 := (h.blk.cell (4 + an)).trans (mc_reg an (by omega))
  have e3 := h.blk.cell 13
  have hg := h.blk.lt
  have hg1 : g < w.heap.size + 1 := by omega
  have fz := h.blk.frozen (4 + an)
  obtain ⟨A3, k3, hM⟩ := own_slice h.om
  have hX : Hid (rg s (bn : Int) = s.regs.getD bn 0) := rfl
  have hY : Hid (rg s (an : Int) = s.regs.getD an 0) := rfl
  subst hM
  simp [mcCells] at e3
  unfold natV at e1 e2
  obtain ⟨x, hx⟩ : ∃ x, s.regs.getD bn 0 = x := ⟨_, rfl⟩
  obtain ⟨y, hy⟩ : ∃ y, s.regs.getD an 0 = y := ⟨_, rfl⟩
  rw [hx] at e1
  rw [hy] at e2
  have HX := Lib.hid hx
  have HY := Lib.hid hy
  clear hx hy
  have H := Lib.hid h
  clear h
  have hwg : w.heap.size ≠ g := by omega
  have hwg' : g ≠ w.heap.size := by omega
  by_cases hlt : x < s.mem.length
  · obtain ⟨q, cap, hv, hq, hql⟩ := H.out.om.form (by omega)
    injection hv with hv1 hv2 hv3
    subst hv1 hv3
    clear hv2
    have e4 := H.out.om.cells (g := q) rfl x _ (natsV_at hlt)
    rw [add_plain, Nat.zero_add] at e4
    unfold natV at e4
    have hgq : g ≠ q := fun e => own_blk_ne H.out.om H.out.blk (by decide) (by rw [e]; rfl)
    have hqg : q ≠ g := Ne.symm hgq
    have hq1 : q < w.heap.size + 1 := by omega
    have hwq : w.heap.size ≠ q := by omega
    have hwq' : q ≠ w.heap.size := by omega
    obtain ⟨v, hvv⟩ : ∃ v, s.mem.getD x 0 = v := ⟨_, rfl⟩
    rw [hvv] at e4
    have HV := Lib.hid hvv
    clear hvv
    have HE : Hid ((if rg s (bn : Int) < s.mem.length then (0 : Int) else 3) = 0) := if_pos (by rw [hX.out, HX.out]; exact hlt)
    have fq : w.frozen? ⟨q, x, none⟩ = false := by
      rcases H.out.om.2 with ⟨h0, _⟩ | ⟨g', cap', cur, hv, _, hh, _⟩
      · cases h0
      · injection hv with e1
        injection e1 with e1
        injection e1 with e1
        subst e1
        exact Blk.frozen (t := 3) (cs := cur) hh x
    rcases ho with rfl | rfl
    · have HT : Hid (touchMc s ⟨8, (an : Int), (bn : Int), c⟩ = { s with regs := s.regs.set an v }) := by
        show _ = _
        unfold touchMc
        simp only
        rw [hX.out, HX.out, if_pos hlt, HV.out]
        rfl
      go_enter Tryd.func83, Tryd.ntmps83
      go_wp2
      go_quiet (fail)
      go_wp2
      go_region_law (first | fail)
      all_goals
        go_wp2
        go_ret
        exact ⟨_, HE.out.symm, rfl, by rw [HT.out]; exact (H.out.later (Below.drewN' ((Below.refl w.heap.size w).alloc (Nat.le_refl _) _) _)).setreg hr8 an (by omega) _⟩
    · have HT : Hid (touchMc s ⟨9, (an : Int), (bn : Int), c⟩ = { s with mem := s.mem.set x y }) := by
        show _ = _
        unfold touchMc
        simp only
        rw [hX.out, HX.out, if_pos hlt, hY.out, HY.out]
        rfl
      go_enter Tryd.func83, Tryd.ntmps83
      go_wp2
      go_quiet (fail)
      go_wp2
      go_region_law (first | fail)
      all_goals
        go_wp2
        go_ret
        exact ⟨_, HE.out.symm, rfl, by rw [HT.out]; exact (H.out.later (Below.drewN' ((Below.refl w.heap.size w).alloc (Nat.le_refl _) _) _)).setmem rfl x y⟩
  · have hge : s.mem.length ≤ x := by omega
    have HE : Hid ((if rg s (bn : Int) < s.mem.length then (0 : Int) else 3) = 3) := if_neg (by rw [hX.out, HX.out]; exact hlt)
    have HT : Hid (touchMc s ⟨o, (an : Int), (bn : Int), c⟩ = s) := by
      show _ = _
      unfold touchMc
      simp only
      rw [hX.out, HX.out, if_neg hlt]
    clear hlt
    go_enter Tryd.func83, Tryd.ntmps83
    go_wp2
    go_quiet (fail)
    go_wp2
    go_ret
    exact ⟨_, HE.out.symm, rfl, by rw [HT.out]; exact H.out.later (Below.drewN' ((Below.refl w.heap.size w).alloc (Nat.le_refl _) _) _)⟩
end Go.Proofs.YtdjamdbamkhblabDoor
