/- The walks of kern.node and kern.end: a file, an open end that may be. -/
import Derived.Test.YtdjamdbamkhblabDoorHas
namespace Go.Proofs.YtdjamdbamkhblabDoor
open Go.RowKit
set_option linter.unusedVariables false
set_option linter.unusedSimpArgs false
theorem empS_l (s : ByteArray) : empS s = decide (s.toList = []) := by
  obtain ⟨⟨l⟩⟩ := s
  rw [show (⟨⟨l⟩⟩ : ByteArray).toList = l from ByteArray.toList_mk l]
  cases l <;> simp [empS, ByteArray.size]
set_option maxHeartbeats 1000000 in
theorem node_any (V1 V3 V4 : Value) (A0 : Option Addr) (n0 c0 : Nat) (A : Option Addr) (c : Nat) (l : List Nod) (i : Nat) (w : World) (hr : RdD w w.heap.size A l) (hl : l.length ≤ maxLen) (hi : i < l.length) (hn : n0 ≤ maxLen) (hs : l[i].data.size ≤ maxLen) :
    Calls Tryd.prog 60 #[.agg #[.slice A0 n0 c0, V1, .slice A l.length c, V3, V4], .int .i64 (i : Int)] w fun e w' => e = .returned (.bool (nodOk n0 l[i])) ∧ Below w.heap.size w w' := by
  unfold maxLen at hl hn hs
  have hb1 := below_box w (.cells #[.slice A0 n0 c0, V1, .slice A l.length c, V3, V4] 60)
  obtain ⟨b, o, rfl, hbB, hcell⟩ := hr (by omega)
  obtain ⟨x, hx⟩ : ∃ x, x = l[i] := ⟨_, rfl⟩
  obtain ⟨q0, q1, q2, q3⟩ := hcell i hi
  rw [← hx] at q0 q1 q2 q3 hs ⊢
  have HB := Lib.hid (fun o => hb1.alloc hb1.size o)
  clear hcell hr hb1 hx
  obtain ⟨nm, kd, dt, un⟩ := x
  simp only at q0 q1 q2 q3 hs
  by_cases k0 : kd = 0
  · subst k0
    go_enter Tryd.func60, Tryd.ntmps60
    go_wp2
    all_goals go_ret
    all_goals refine ⟨ret_bool ?_, HB.out _⟩
    all_goals simp [nodOk, empS_l, *]
  by_cases k1 : kd = 1
  · subst k1
    clear k0
    go_enter Tryd.func60, Tryd.ntmps60
    go_wp2
    all_goals go_ret
    all_goals refine ⟨ret_bool ?_, HB.out _⟩
    all_goals simp [nodOk, empS_l, *]
    all_goals (try omega)
  by_cases k2 : kd = 2
  · subst k2
    clear k0 k1
    go_enter Tryd.func60, Tryd.ntmps60
    go_wp2
    all_goals go_ret
    all_goals refine ⟨ret_bool ?_, HB.out _⟩
    all_goals simp [nodOk, empS_l, *]
    all_goals (try omega)
  · have t0 : (kd == 0) = false := by rw [beq_eq_false_iff_ne]; exact k0
    have t1 : (kd == 1) = false := by rw [beq_eq_false_iff_ne]; exact k1
    have t2 : (kd == 2) = false := by rw [beq_eq_false_iff_ne]; exact k2
    have HN : Hid (nodOk n0 ⟨nm, kd, dt, un⟩ = false) := by show _ = _; simp [nodOk, k0, k1, k2]
    clear k0 k1 k2
    go_enter Tryd.func60, Tryd.ntmps60
    go_wp2
    go_ret
    exact ⟨ret_bool HN.out.symm, HB.out _⟩
set_option maxHeartbeats 4000000 in
theorem end_any (V0 V1 V3 V4 : Value) (A : Option Addr) (c : Nat) (k : Krn) (x : Opn) (w : World) (hr : RdD w w.heap.size A k.nodes) (hl : k.nodes.length = 8) :
    Calls Tryd.prog 67 #[.agg #[V0, V1, .slice A k.nodes.length c, V3, V4], .agg #[.int .i64 x.kind, .int .i64 x.node, .int .i64 x.pos]] w fun e w' => e = .returned (.bool (endOk k x)) ∧ Below w.heap.size w w' := by
  rw [hl]
  have hb1 := below_box w (.cells #[V0, V1, .slice A 8 c, V3, V4] 60)
  have HB := Lib.hid (fun o => hb1.alloc hb1.size o)
  obtain ⟨b, o, rfl, hbB, hcell⟩ := hr (by omega)
  obtain ⟨kd, nd, ps⟩ := x
  simp only
  by_cases k0 : kd = 0
  · subst k0
    clear hr hcell
    go_enter Tryd.func67, Tryd.ntmps67
    go_wp2
    all_goals go_ret
    all_goals refine ⟨ret_bool ?_, HB.out _⟩
    all_goals simp [endOk, *]
  by_cases k1 : kd = 1
  · subst k1
    clear k0
    have HE : ∀ B : Bool, endOk k ⟨1, nd, ps⟩ = B → Hid (endOk k ⟨1, nd, ps⟩ = B) := fun _ h => h
    by_cases hn : 0 ≤ nd ∧ nd < 8
    · obtain ⟨j, rfl⟩ := Int.eq_ofNat_of_zero_le hn.1
      have hj : j < k.nodes.length := by omega
      obtain ⟨q0, q1, q2, q3⟩ := hcell j hj
      obtain ⟨y, hy⟩ : ∃ y, y = k.nodes[j] := ⟨_, rfl⟩
      rw [← hy] at q1
      have hg : k.nodes[j]?.getD default = y := by rw [hy]; simp [hj]
      have hj8 : (j : Int) < 8 := hn.2
      clear hr hcell q0 q2 q3 hy hn
      by_cases hk : y.kind = 0
      · have HV := HE false (by simp [endOk, hg, hk])
        rw [hk] at q1
        clear hk hg HE
        go_enter Tryd.func67, Tryd.ntmps67
        go_wp2
        all_goals go_ret
        all_goals exact ⟨ret_bool HV.out.symm, HB.out _⟩
      · have hk' : (y.kind != 0) = true := by rw [bne_iff_ne]; exact hk
        have HV := HE (decide (0 ≤ ps ∧ ps ≤ 100)) (by simp [endOk, hg, hk, hj8])
        clear hk hg HE
        go_enter Tryd.func67, Tryd.ntmps67
        go_wp2
        all_goals go_ret
        all_goals refine ⟨ret_bool ?_, HB.out _⟩
        all_goals rw [HV.out]
        all_goals simp [*]
        all_goals (try omega)
    · have HV := HE false (by simp [endOk]; omega)
      clear hr hcell HE
      by_cases h0 : nd < 0
      · clear hn
        go_enter Tryd.func67, Tryd.ntmps67
        go_wp2
        all_goals go_ret
        all_goals exact ⟨ret_bool HV.out.symm, HB.out _⟩
      · have h8 : 8 ≤ nd := by omega
        have h00 : 0 ≤ nd := by omega
        clear hn h0
        go_enter Tryd.func67, Tryd.ntmps67
        go_wp2
        all_goals go_ret
        all_goals exact ⟨ret_bool HV.out.symm, HB.out _⟩
  by_cases k2 : kd = 2 ∨ kd = 3
  · have HV : Hid (endOk k ⟨kd, nd, ps⟩ = (decide (0 ≤ nd ∧ nd < 6) && (ps == 0))) := by show _ = _; unfold endOk; rw [if_neg k0, if_neg k1, if_pos k2]
    clear hr hcell k0 k1
    rcases k2 with rfl | rfl
    all_goals
      go_enter Tryd.func67, Tryd.ntmps67
      go_wp2
      all_goals go_ret
      all_goals refine ⟨ret_bool ?_, HB.out _⟩
      all_goals rw [HV.out]
      all_goals simp [*]
      all_goals (try omega)
  · have t0 : (kd == 0) = false := by rw [beq_eq_false_iff_ne]; exact k0
    have t1 : (kd == 1) = false := by rw [beq_eq_false_iff_ne]; exact k1
    have t2 : (kd == 2) = false := by rw [beq_eq_false_iff_ne]; omega
    have t3 : (kd == 3) = false := by rw [beq_eq_false_iff_ne]; omega
    have HV : Hid (endOk k ⟨kd, nd, ps⟩ = false) := by show _ = _; unfold endOk; rw [if_neg k0, if_neg k1, if_neg k2]
    clear hr hcell k0 k1 k2
    go_enter Tryd.func67, Tryd.ntmps67
    go_wp2
    go_ret
    exact ⟨ret_bool HV.out.symm, HB.out _⟩
end Go.Proofs.YtdjamdbamkhblabDoor
