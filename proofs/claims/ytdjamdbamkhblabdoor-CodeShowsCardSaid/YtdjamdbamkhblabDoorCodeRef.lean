/- The walk of the reference's CodeFault: what it returns, for every code. -/
import Derived.Test.YtdjamdbamkhblabDoorCode
namespace Go.Proofs.YtdjamdbamkhblabDoor
open Go.RowKit

set_option maxHeartbeats 1000000 in
theorem CodeFault_any (A : Option Addr) (c : Nat) (l : List Ins) (w : World) (hr : RdI w w.heap.size A l) (hl : l.length ≤ maxLen) :
    Calls Tryd.prog 72 #[.slice A l.length c] w fun e w' => e = .returned (.int .i64 (check l)) ∧ Below w.heap.size w w' := by
  unfold maxLen at hl
  by_cases h200 : 200 < l.length
  · go_enter Tryd.func72, Tryd.ntmps72
    go_wp2
    go_ret
    exact ⟨ret_int (by rw [check, if_pos h200]), Below.refl _ _⟩
  · have hck : check l = chk (l.drop 0) := by rw [check, if_neg h200]; rfl
    have HC := Lib.hid hck
    clear hck
    go_enter Tryd.func72, Tryd.ntmps72
    go_wp2
    go_loopw [3] (fun i wr => ∃ k : Nat, k ≤ l.length ∧ i = .int .i64 k ∧ Below w.heap.size w wr ∧ Hid (check l = chk (l.drop k))) (fun i _ => l.length - (intOf i).toNat)
    case atStart => exact ⟨0, Nat.zero_le _, rfl, Below.refl _ _, HC⟩
    case round =>
      clear HC
      obtain ⟨k, hk, rfl, hb, HC⟩ := hrel
      by_cases hlt : k < l.length
      · obtain ⟨b, o, rfl, hbB, hcell⟩ := hr (by omega)
        obtain ⟨c0, c1, c2, c3⟩ := hcell k hlt
        rw [← hb.cell (p := ⟨b, _, none⟩) hbB] at c0 c1 c2 c3
        have HD := Lib.hid (chk_drop hlt)
        have hbz := hb.size
        clear hr hcell
        by_cases hop : 1 ≤ l[k].op ∧ l[k].op ≤ 15
        · obtain ⟨hop1, hop2⟩ := hop
          obtain ⟨q, hq⟩ : ∃ q : Nat, l[k].op = q := ⟨l[k].op.toNat, by omega⟩
          rw [hq] at c0 hop1 hop2
          have hs : (shp q).size = 3 := shp_size (by omega) (by omega)
          obtain ⟨hpa, hpb, hpc⟩ := shp_parts (q := q) (by omega) (by omega) hs
          have HE : Hid (okI l[k] = (decide (0 ≤ l[k].a ∧ l[k].a ≤ grt ((shp q)[0]'(by omega)).toNat) && decide (0 ≤ l[k].b ∧ l[k].b ≤ grt ((shp q)[1]'(by omega)).toNat) && decide (0 ≤ l[k].c ∧ l[k].c ≤ grt ((shp q)[2]'(by omega)).toNat))) := by
            rw [hpa, hpb, hpc]; unfold okI; rw [hq]; exact rfl
          have HF : Hid (¬ (l[k].op < 1 ∨ 15 < l[k].op)) := by show ¬ _; omega
          clear hq hpa hpb hpc
          generalize hx : l[k].a = x at *
          generalize hy : l[k].b = y at *
          generalize hz : l[k].c = z at *
          clear hx hy hz
          have hin : inB (q : Int) 1 15 = true := inB_true hop1 hop2
          by_cases hxx : 0 ≤ x ∧ x ≤ grt ((shp q)[0]'(by omega)).toNat
          · have ha : inB x 0 (grt ((shp q)[0]'(by omega)).toNat) = true := inB_true hxx.1 hxx.2
            by_cases hyy : 0 ≤ y ∧ y ≤ grt ((shp q)[1]'(by omega)).toNat
            · have hb' : inB y 0 (grt ((shp q)[1]'(by omega)).toNat) = true := inB_true hyy.1 hyy.2
              by_cases hzz : 0 ≤ z ∧ z ≤ grt ((shp q)[2]'(by omega)).toNat
              · have hc' : inB z 0 (grt ((shp q)[2]'(by omega)).toNat) = true := inB_true hzz.1 hzz.2
                go_wp2_with (first | (go_at_call 73; refine (In_any _ _ _ _).mono ?_; rintro e w' ⟨rfl, rfl⟩) | (go_at_call 79; refine (shapeOf_any q (by omega) (by omega) _).mono ?_; rintro e w' ⟨rfl, rfl⟩))
                go_quiet ((first | (go_at_call 73; exact quiet_left (In_any _ _ _ _)) | (go_at_call 100; exact quiet_left (mostOf_any _ _))))
                go_wp2
                go_roundw
                case rel =>
                  refine ⟨k + 1, by omega, by go_num, Below.drewN' (hb.alloc hbz _) _, ?_⟩
                  show _ = _
                  rw [HC.out, HD.out, if_neg HF.out, HE.out]
                  simp [hxx, hyy, hzz]
                case measure => simp [intOf]; omega
              · have hn : inB z 0 (grt ((shp q)[2]'(by omega)).toNat) = false := inB_false (by omega)
                have HG : Hid (check l = 2) := by
                  show _ = _
                  rw [HC.out, HD.out, if_neg HF.out, HE.out]
                  simp [hzz]
                go_wp2_with (first | (go_at_call 73; refine (In_any _ _ _ _).mono ?_; rintro e w' ⟨rfl, rfl⟩) | (go_at_call 79; refine (shapeOf_any q (by omega) (by omega) _).mono ?_; rintro e w' ⟨rfl, rfl⟩))
                go_quiet ((first | (go_at_call 73; exact quiet_left (In_any _ _ _ _)) | (go_at_call 100; exact quiet_left (mostOf_any _ _))))
                go_wp2
                go_ret
                exact ⟨ret_int HG.out.symm, Below.drewN' (hb.alloc hbz _) _⟩
            · have hn : inB y 0 (grt ((shp q)[1]'(by omega)).toNat) = false := inB_false (by omega)
              have HG : Hid (check l = 2) := by
                show _ = _
                rw [HC.out, HD.out, if_neg HF.out, HE.out]
                simp [hyy]
              go_wp2_with (first | (go_at_call 73; refine (In_any _ _ _ _).mono ?_; rintro e w' ⟨rfl, rfl⟩) | (go_at_call 79; refine (shapeOf_any q (by omega) (by omega) _).mono ?_; rintro e w' ⟨rfl, rfl⟩))
              go_quiet ((first | (go_at_call 73; exact quiet_left (In_any _ _ _ _)) | (go_at_call 100; exact quiet_left (mostOf_any _ _))))
              go_wp2
              go_ret
              exact ⟨ret_int HG.out.symm, Below.drewN' (hb.alloc hbz _) _⟩
          · have hn : inB x 0 (grt ((shp q)[0]'(by omega)).toNat) = false := inB_false (by omega)
            have HG : Hid (check l = 2) := by
              show _ = _
              rw [HC.out, HD.out, if_neg HF.out, HE.out]
              simp [hxx]
            go_wp2_with (first | (go_at_call 73; refine (In_any _ _ _ _).mono ?_; rintro e w' ⟨rfl, rfl⟩) | (go_at_call 79; refine (shapeOf_any q (by omega) (by omega) _).mono ?_; rintro e w' ⟨rfl, rfl⟩))
            go_quiet ((first | (go_at_call 73; exact quiet_left (In_any _ _ _ _)) | (go_at_call 100; exact quiet_left (mostOf_any _ _))))
            go_wp2
            go_ret
            exact ⟨ret_int HG.out.symm, Below.drewN' (hb.alloc hbz _) _⟩
        · have HG : Hid (check l = 3) := by
            show _ = _
            rw [HC.out, HD.out, if_pos (by omega)]
          have hin : inB l[k].op 1 15 = false := inB_false (by omega)
          generalize l[k].op = q at *
          go_wp2_with (go_at_call 73; refine (In_any _ _ _ _).mono ?_; rintro e w' ⟨rfl, rfl⟩)
          go_ret
          exact ⟨ret_int HG.out.symm, hb.alloc hbz _⟩
      · go_wp2
        go_ret
        exact ⟨ret_int (by rw [HC.out, List.drop_of_length_le (by omega)]; rfl), hb⟩
end Go.Proofs.YtdjamdbamkhblabDoor
