/- The walk of the law TopApart: it answers true. Condition: the listed tables. -/
import Derived.Test.YtdjamdbamkhblacDoorG28
import Derived.Test.YtdjamdbamkhblacDoorG30
namespace Go.Proofs.YtdjamdbamkhblacDoor
open Go.RowKit
set_option linter.unusedVariables false
set_option linter.unusedSimpArgs false
attribute [local go_sem] After.cell
set_option maxHeartbeats 1000000 in
theorem Picked_anyA (n : Int) (m : Nat) (w : World) (h1 : -9223372036854775808 ≤ n) (h2 : n ≤ 9223372036854775807) (hm : 0 < m) (hm2 : (m : Int) ≤ 9223372036854775807) :
    Calls Tryd.prog 29 #[.int .i64 n, .int .i64 (m : Int)] w fun e w' => e = .returned (.int .i64 (pick n m : Nat)) ∧ w = w' := by
  have C := Lib.hid (picked_any n m w h1 h2 hm hm2)
  go_enter Tryd.func29, Tryd.ntmps29
  go_wp2_with fail
  refine C.out.mono ?_
  rintro e w' ⟨rfl, rfl⟩
  go_wp2
  go_ret
  exact ⟨rfl, rfl⟩
set_option maxRecDepth 100000 in
set_option maxHeartbeats 4000000 in
theorem TopApart_any (r : Ins) (x y : Int) (w : World) (hr : r.wf) (wx : (Lit.int .i64 x).wf = true) (wy : (Lit.int .i64 y).wf = true) (ht : Tab w) :
    Calls Tryd.prog 9 #[.agg #[.int .i64 r.op, .int .i64 r.a, .int .i64 r.b, .int .i64 r.c], .int .i64 x, .int .i64 y] w fun e w' => e = .returned (.bool true) ∧ Below w.heap.size w w' := by
  obtain ⟨x1, x2⟩ := wf64_of wx
  obtain ⟨y1, y2⟩ := wf64_of wy
  have wf0 : wf64 0 := ⟨by decide, by decide⟩
  have wf29 : wf64 29 := ⟨by decide, by decide⟩
  have hb0 := below_box w (.cells #[.int .i64 r.op, .int .i64 r.a, .int .i64 r.b, .int .i64 r.c] 23)
  have HB0 := Lib.hid hb0
  have HX0 := Lib.hid (Blk.new w 23 #[.int .i64 r.op, .int .i64 r.a, .int .i64 r.b, .int .i64 r.c])
  have C1 : Hid (∀ W : World, Calls Tryd.prog 12 #[.agg #[.int .i64 r.op, .int .i64 r.a, .int .i64 r.b, .int .i64 r.c]] W fun e w' => e = .returned (.string (dataS r.a r.b)) ∧ Below W.heap.size W w') := fun W => KData_any r hr W
  have C2 : Hid (∀ W : World, Calls Tryd.prog 12 #[.agg #[.int .i64 0, .int .i64 29, .int .i64 r.b, .int .i64 0]] W fun e w' => e = .returned (.string (dataS 29 r.b)) ∧ Below W.heap.size W w') := fun W => KData_any ⟨0, 29, r.b, 0⟩ ⟨wf0, wf29, hr.2.2.1, wf0⟩ W
  obtain ⟨d1, hd1⟩ : ∃ d, d = dataS r.a r.b := ⟨_, rfl⟩
  obtain ⟨d2, hd2⟩ : ∃ d, d = dataS 29 r.b := ⟨_, rfl⟩
  rw [← hd1] at C1
  rw [← hd2] at C2
  have l1 : 1 ≤ d1.size ∧ d1.size ≤ 30 := by rw [hd1]; exact dataS_le _ _
  have l2 : d2.size = 30 := by rw [hd2, dataS_size]; rfl
  have hov : ¬ (9223372036854775807 < d1.size + d2.size) := by omega
  have HL := Lib.hid (And.intro l1 l2)
  obtain ⟨a, ha⟩ : ∃ a, a = pick x 9 := ⟨_, rfl⟩
  obtain ⟨b, hb⟩ : ∃ b, b = pick y 9 := ⟨_, rfl⟩
  have ha9 : a < 9 := by rw [ha]; exact pick_lt _ (by omega)
  have hb9 : b < 9 := by rw [hb]; exact pick_lt _ (by omega)
  have PA : Hid (∀ W : World, Calls Tryd.prog 29 #[.int .i64 x, .int .i64 9] W fun e w' => e = .returned (.int .i64 (a : Nat)) ∧ W = w') := fun W => by rw [ha]; exact Picked_anyA x 9 W x1 x2 (by omega) (by omega)
  have PB : Hid (∀ W : World, Calls Tryd.prog 29 #[.int .i64 y, .int .i64 9] W fun e w' => e = .returned (.int .i64 (b : Nat)) ∧ W = w') := fun W => by rw [hb]; exact Picked_anyA y 9 W y1 y2 (by omega) (by omega)
  have HT := Lib.hid ht
  clear wf0 wf29 hb0 hd1 hd2 l1 ha hb ht wx wy x1 x2 y1 y2 hr
  go_enter Tryd.func9, Tryd.ntmps9
  go_upto_region 1 with fail
  refine (show ∀ W : World, Blk W w.heap.size 23 #[.int .i64 r.op, .int .i64 r.a, .int .i64 r.b, .int .i64 r.c] → Below w.heap.size w W → Code.wp _ _ _ _ W from ?_) _ HX0.out HB0.out
  clear HX0 HB0
  intro W1 hX hB
  have r0 := hX.cell 0
  have r1 := hX.cell 1
  have r2 := hX.cell 2
  have r3 := hX.cell 3
  have rl := hX.lt
  simp at r0 r1 r2 r3
  have D1 : Hid (∀ X : After W1, Calls Tryd.prog 12 #[.agg #[.int .i64 r.op, .int .i64 r.a, .int .i64 r.b, .int .i64 r.c]] X.w' fun e w' => e = .returned (.string d1) ∧ Below X.w'.heap.size X.w' w') := fun X => C1.out _
  have D2 : Hid (∀ X : After W1, Calls Tryd.prog 12 #[.agg #[.int .i64 0, .int .i64 29, .int .i64 r.b, .int .i64 0]] X.w' fun e w' => e = .returned (.string d2) ∧ Below X.w'.heap.size X.w' w') := fun X => C2.out _
  have HB := Lib.hid hB
  clear hX hB C1 C2
  refine wp_region_calm (by kernel_rfl) (by kernel_rfl) ?_
  repeat (go_big_quiet_step ((rename_i X; first | with_reducible exact Calls.calm (D1.out X) | with_reducible exact Calls.calm (D2.out X))))
  refine wpQuiet_nil ?_
  rintro W2 ⟨⟨_, hb2⟩, rfl⟩
  rename_i W2
  have HB2 := Lib.hid (HB.out.trans (hb2.mono HB.out.size))
  clear hb2 HB D1 D2 r0 r1 r2 r3 rl hov
  have hsz : (d1 ++ d2).size = d1.size + d2.size := str_app_size d1 d2
  obtain ⟨s, hs⟩ : ∃ s, s = d1 ++ d2 := ⟨_, rfl⟩
  rw [← hs] at hsz
  rw [← hs]
  have HSZ := Lib.hid (show 31 ≤ s.size ∧ s.size ≤ 60 by have := HL.out; omega)
  clear hs hsz HL l2
  go_wp2_with fail
  refine (PA.out _).mono ?_
  rintro e w' ⟨rfl, rfl⟩
  go_wp2_with fail
  refine (PB.out _).mono ?_
  rintro e w' ⟨rfl, rfl⟩
  clear PA PB
  have e10 : (apartL s (1 + a) (1 + b)).length = 10 := rfl
  have HAR := Lib.hid (apart_runs s (1 + a) (1 + b) HSZ.out.1 (by have := HSZ.out.2; omega) (by omega) (by omega) (by omega) (by omega))
  have HAO : Hid (ActsOk (apartL s (1 + a) (1 + b))) := fun x hx => by
    have := HSZ.out.2
    have h6 : fS.size ≤ maxLen := by decide
    have h0 : noS.size ≤ maxLen := by decide
    have hs : s.size ≤ maxLen := by unfold maxLen; omega
    unfold apartL at hx
    simp only [List.mem_cons, List.not_mem_nil, or_false] at hx
    rcases hx with rfl | rfl | rfl | rfl | rfl | rfl | rfl | rfl | rfl | rfl <;> exact ⟨by first | exact h6 | exact h0, by first | exact h0 | exact hs⟩
  obtain ⟨cs, hcs⟩ : ∃ cs, cs = (aktCells (apartL s (1 + a) (1 + b))).toArray := ⟨_, rfl⟩
  have hcs2 : cs = #[.int .i64 2, .int .i64 0, .int .i64 0, .int .i64 0, .string ⟨#[102]⟩, .string ⟨#[]⟩, .int .i64 5, .int .i64 0, .int .i64 0, .int .i64 0, .string ⟨#[102]⟩, .string ⟨#[]⟩, .int .i64 8, .int .i64 0, .int .i64 0, .int .i64 0, .string ⟨#[]⟩, .string s, .int .i64 6, .int .i64 0, .int .i64 0, .int .i64 0, .string ⟨#[]⟩, .string ⟨#[]⟩,
    .int .i64 5, .int .i64 0, .int .i64 0, .int .i64 0, .string ⟨#[102]⟩, .string ⟨#[]⟩, .int .i64 10, .int .i64 0, .int .i64 0, .int .i64 0, .string ⟨#[]⟩, .string ⟨#[]⟩, .int .i64 7, .int .i64 0, .int .i64 0, .int .i64 (1 + (a : Int)), .string ⟨#[]⟩, .string ⟨#[]⟩, .int .i64 7, .int .i64 1, .int .i64 0, .int .i64 (1 + (b : Int)), .string ⟨#[]⟩, .string ⟨#[]⟩,
    .int .i64 11, .int .i64 1, .int .i64 0, .int .i64 0, .string ⟨#[]⟩, .string ⟨#[]⟩, .int .i64 7, .int .i64 0, .int .i64 0, .int .i64 (1 + (b : Int)), .string ⟨#[]⟩, .string ⟨#[]⟩] := by
    have ea : ((1 + a : Nat) : Int) = 1 + (a : Int) := by omega
    have eb : ((1 + b : Nat) : Int) = 1 + (b : Int) := by omega
    rw [hcs]
    unfold apartL aktCells
    rw [← ea, ← eb]
    rfl
  have hba := (Below.refl W2.heap.size W2).alloc (Nat.le_refl _) (.cells cs 26)
  have hA := Blk.new W2 26 cs
  have HRUN : Hid (Calls Tryd.prog 16 #[.slice (some ⟨W2.heap.size, 0, none⟩) 10 10] (W2.alloc (.cells cs 26)) (RunKPost (W2.alloc (.cells cs 26)) (runK newK (apartL s (1 + a) (1 + b))))) :=
    KRun_any runC_Run (some ⟨W2.heap.size, 0, none⟩) 10 (apartL s (1 + a) (1 + b)) _ (RdA.blk hA hcs) (by rw [e10]; omega) HAO.out (HT.out.below (HB2.out.trans (hba.mono HB2.out.size)))
  have HBA := Lib.hid (HB2.out.trans (hba.mono HB2.out.size))
  rw [hcs2] at HRUN HBA
  clear hcs hcs2 hba hA HAO e10
  go_wp2_with fail
  refine HRUN.out.mono ?_
  rintro e w3 ⟨A, c, ak, rfl, hO, hK, hcp, hb3⟩
  obtain ⟨⟨kk, la⟩, hr⟩ : ∃ r, r = runK newK (apartL s (1 + a) (1 + b)) := ⟨_, rfl⟩
  have hla := HAR.out
  rw [← hr] at hla hO hK
  rw [← hr]
  simp only at hla hO hK
  have HBF := Lib.hid (HBA.out.trans (hb3.mono HBA.out.size))
  have hfx : ∃ bx, A = some ⟨bx, 0, none⟩ ∧ bx < w3.heap.size ∧ w3.cell? ⟨bx, 20, none⟩ = some (.string (cutS s 0 (1 + a))) ∧ w3.cell? ⟨bx, 23, none⟩ = some (.string (cutS s 0 (1 + b))) ∧ w3.cell? ⟨bx, 29, none⟩ = some (.string (cutS s (1 + a) (1 + a + (1 + b)))) := by
    subst hla
    obtain ⟨bx, hA, hlt, hcell⟩ := RunKPost.at_ hO (by simp)
    have y6 := (hcell 6 (by simp)).2.2
    have y7 := (hcell 7 (by simp)).2.2
    have y9 := (hcell 9 (by simp)).2.2
    have em : min (1 + b) (s.size - (1 + a)) = 1 + b := by have := HSZ.out.1; omega
    simp at y6 y7 y9
    rw [em] at y9
    exact ⟨bx, hA, hlt, y6, y7, y9⟩
  obtain ⟨bx, rfl, hlt, y6, y7, y9⟩ := hfx
  have hlen : la.length = 10 := by rw [hla]; rfl
  simp only
  rw [hlen]
  clear hO hK hcp hb3 hr hla hlen HRUN HAR HBA HB2 HT
  unfold KA.cells
  have z1 : 1 + (a : Int) ≤ (s.size : Int) := by have := HSZ.out.1; omega
  have z2 : 1 + (b : Int) ≤ (s.size : Int) := by have := HSZ.out.1; omega
  have z3 : 1 + (a : Int) + (1 + (b : Int)) ≤ (s.size : Int) := by have := HSZ.out.1; omega
  have z3n : 1 + a + (1 + b) ≤ s.size := by have := HSZ.out.1; omega
  have z4 : 1 + (a : Int) ≤ 1 + (a : Int) + (1 + (b : Int)) := by omega
  have q6 : ((cutS s 0 (1 + a)).toList == (s.extract 0 (1 + a)).toList) = true := by rw [cut_ext]; exact beq_self_eq_true _
  have q7 : ((cutS s 0 (1 + b)).toList == (s.extract 0 (1 + b)).toList) = true := by rw [cut_ext]; exact beq_self_eq_true _
  have q9 : ((cutS s (1 + a) (1 + a + (1 + b))).toList == (s.extract (1 + a) (1 + a + (1 + b))).toList) = true := by rw [cut_ext]; exact beq_self_eq_true _
  go_upto_region 7 with fail
  have y6' := y6
  refine (show ∀ W : World, W.cell? ⟨bx, 20, none⟩ = some (.string (cutS s 0 (1 + a))) → W.cell? ⟨bx, 23, none⟩ = some (.string (cutS s 0 (1 + b))) → W.cell? ⟨bx, 29, none⟩ = some (.string (cutS s (1 + a) (1 + a + (1 + b)))) → bx < W.heap.size → Below w.heap.size w W → Code.wp _ _ _ _ W from ?_) _ ((Below.one w3 _).cell (p := ⟨bx, 20, none⟩) hlt |>.trans y6) ((Below.one w3 _).cell (p := ⟨bx, 23, none⟩) hlt |>.trans y7) ((Below.one w3 _).cell (p := ⟨bx, 29, none⟩) hlt |>.trans y9) (Nat.lt_of_lt_of_le hlt (Below.one w3 _).size) (HBF.out.trans ((Below.one w3 _).mono HBF.out.size))
  clear y6 y7 y9 hlt y6' HBF
  intro W5 y6 y7 y9 hlt hB
  have HBF := Lib.hid hB
  clear hB
  have q10 : Hid (((cutS s (1 + a) (1 + a + (1 + b))).toList == (s.extract (1 + a) (if 1 + (a : Int) + (1 + (b : Int)) < (s.size : Int) then 1 + (a : Int) + (1 + (b : Int)) else (s.size : Int)).toNat).toList) = true) := by
    show _ = _
    rw [if_pos (by have := HSZ.out.1; omega), show (1 + (a : Int) + (1 + (b : Int))).toNat = 1 + a + (1 + b) by omega]
    exact q9
  go_quiet (fail)
  have HF := Lib.hid (Below.drewN' HBF.out nq)
  have z5 : 1 + (a : Int) + (1 + (b : Int)) < (s.size : Int) := by have := HSZ.out.1; omega
  clear y6 y7 y9 q6 q7
  go_wp2
  go_ret
  exact ⟨by first | rfl | exact ret_bool q9 | exact ret_bool q10.out, HF.out⟩
end Go.Proofs.YtdjamdbamkhblacDoor
