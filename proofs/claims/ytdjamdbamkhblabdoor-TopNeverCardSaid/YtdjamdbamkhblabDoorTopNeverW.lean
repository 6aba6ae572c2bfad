/- The walk of the law TopNever: it answers true. Condition: the listed tables. -/
import Derived.Test.YtdjamdbamkhblabDoorTrusted
import Derived.Test.YtdjamdbamkhblabDoorTopNG
import Derived.Test.YtdjamdbamkhblabDoorKMem
import Derived.Test.YtdjamdbamkhblabDoorTopP
import Derived.Test.YtdjamdbamkhblabDoorEnterW
import Derived.Test.YtdjamdbamkhblabDoorRun
namespace Go.Proofs.YtdjamdbamkhblabDoor
open Go.RowKit
set_option linter.unusedVariables false
set_option linter.unusedSimpArgs false
set_option maxHeartbeats 1000000 in
theorem Picked_anyT (n : Int) (m : Nat) (w : World) (h1 : -9223372036854775808 ≤ n) (h2 : n ≤ 9223372036854775807) (hm : 0 < m) (hm2 : (m : Int) ≤ 9223372036854775807) :
    Calls Tryd.prog 16 #[.int .i64 n, .int .i64 (m : Int)] w fun e w' => e = .returned (.int .i64 (pick n m : Nat)) ∧ w = w' := by
  have C := Lib.hid (picked_any n m w h1 h2 hm hm2)
  go_enter Tryd.func16, Tryd.ntmps16
  go_wp2_with fail
  refine C.out.mono ?_
  rintro e w' ⟨rfl, rfl⟩
  go_wp2
  go_ret
  exact ⟨rfl, rfl⟩
theorem entV_in {r x : Nat} (hr : r < 16) (hx : x ≤ 65535) : entV (r : Int) (x : Int) = .tuple #[.agg #[.int .i64 x, .int .i64 0, .int .i64 0, .int .i64 0, .int .i64 ((r : Int) * 64), .int .i64 ((r : Int) * 64), .int .i64 63, .int .i64 0], .int .i64 0] := by
  have : entBad (r : Int) (x : Int) = false := by
    unfold entBad
    simp
    omega
  unfold entV
  rw [this]
  rfl
theorem own_nilN {w : World} {base : Nat} {A : Option Addr} {c : Nat} {l : List Int} (h : w.ownsRow base 3 1 (.slice A l.length c) l.length (intCells l)) : A = none → l.length = 0 ∧ c = 0 := fun e => by
  subst e
  rcases h.2 with ⟨e1, h0⟩ | ⟨_, _, _, e1, _⟩
  · injection e1 with _ _ e2; exact ⟨h0, e2⟩
  · cases e1
set_option maxRecDepth 100000 in
set_option maxHeartbeats 4000000 in
theorem TopNever_any (A : Option Addr) (c : Nat) (l : List Ins) (made : Bool) (region : Int) (ra : Ins) (w : World) (hr : RdI w w.heap.size A l) (hwf : ∀ i ∈ l, i.wf) (hl : l.length ≤ maxLen) (wn : (Lit.int .i64 region).wf = true) (hra : ra.wf) (ht : Tab w) :
    Calls Tryd.prog 3 #[.slice A l.length c, .bool made, .int .i64 region, .agg #[.int .i64 ra.op, .int .i64 ra.a, .int .i64 ra.b, .int .i64 ra.c]] w fun e w' => e = .returned (.bool true) ∧ Below w.heap.size w w' := by
  obtain ⟨n1, n2⟩ := wf64_of wn
  have hb0 := (Below.refl w.heap.size w).alloc (Nat.le_refl _) (.cells #[.int .i64 ra.op, .int .i64 ra.a, .int .i64 ra.b, .int .i64 ra.c] 24)
  have HX0 := Lib.hid (Blk.new w 24 #[.int .i64 ra.op, .int .i64 ra.a, .int .i64 ra.b, .int .i64 ra.c])
  have HTR := Lib.hid (trusted_any A c l made _ ((hr.below hb0).more hb0.size) hwf hl (ht.below hb0))
  have HVM := Lib.hid (trC_verify l)
  have HLN := Lib.hid (trC_len l made)
  obtain ⟨cd, hcd⟩ : ∃ cd, cd = trC l made := ⟨_, rfl⟩
  have HCM : Hid (verify cd ≠ 0 → made = false) := fun h => by
    cases made with
    | false => rfl
    | true => exact absurd HVM.out (by rw [← hcd]; exact h)
  rw [← hcd] at HTR HLN
  obtain ⟨r, hrr⟩ : ∃ r, pick region 16 = r := ⟨_, rfl⟩
  have hr16 : r < 16 := by rw [← hrr]; exact pick_lt region (by omega)
  have C1 : Hid (∀ W : World, Calls Tryd.prog 16 #[.int .i64 region, .int .i64 16] W fun e w' => e = .returned (.int .i64 (r : Nat)) ∧ W = w') := fun W => by
    rw [← hrr]; exact Picked_anyT region 16 W n1 n2 (by omega) (by omega)
  have HT := Lib.hid ht
  have HB0 := Lib.hid hb0
  clear hcd hrr hb0 wn n1 n2 hr hwf hl ht HVM
  go_enter Tryd.func3, Tryd.ntmps3
  go_wp2_with fail
  refine HTR.out.mono ?_
  rintro e w1 ⟨V, rfl, hV, hb1⟩
  obtain ⟨A1, c1, rfl⟩ := own_slice hV
  have HB1 := Lib.hid (HB0.out.trans (hb1.mono HB0.out.size))
  have HX1 := Lib.hid (HX0.out.below hb1 HX0.out.lt)
  have HR1 := Lib.hid (RdI.of (Rd.of_own hV))
  clear hV hb1 HTR
  by_cases hv : verify cd = 0
  · have HV := Lib.hid hv
    rw [decide_eq_true hv]
    clear hv
    have HE := Lib.hid (entV_in (r := r) (x := 5) hr16 (by omega))
    go_wp2_with fail
    refine (C1.out w1).mono ?_
    rintro e w2 ⟨rfl, rfl⟩
    go_wp2_with fail
    refine (Enter_any (r : Int) 5 w1).mono ?_
    rw [show entV (r : Int) 5 = _ from HE.out]
    rintro e w2 ⟨rfl, hb2⟩
    have hb3 := HB1.out.trans (hb2.mono HB1.out.size)
    have HX2 := Lib.hid (HX1.out.below hb2 HX1.out.lt)
    have HR2 := Lib.hid (HR1.out.below hb2)
    have hz2 := hb2.size
    have HB2 := Lib.hid hb3
    clear hb2 hb3
    obtain ⟨mem, hmem⟩ : ∃ mem, mem = memTo ra 1024 := ⟨_, rfl⟩
    have hml : mem.length = 1024 := by rw [hmem]; exact memTo_length ra 1024
    have NF := never_fault (fuel := 3000) (x := 5) HV.out hr16 (by omega) hml (by rw [hmem]; exact memTo_odd ra 1024) (by omega)
    obtain ⟨rr, hrr⟩ : ∃ rr, rr = runRes cd [5, 0, 0, 0, (r : Int) * 64, (r : Int) * 64, 63, 0] mem 3000 := ⟨_, rfl⟩
    have HRE : Hid (runErr cd [5, 0, 0, 0, (r : Int) * 64, (r : Int) * 64, 63, 0] mem 3000 = 0) := NF.1
    have HN0 : Hid (rr.2 ≠ 0) := by rw [hrr]; exact NF.2.1
    have HN3 : Hid (rr.2 ≠ 3) := by rw [hrr]; exact NF.2.2
    have HRR := Lib.hid hrr
    have HMM := Lib.hid hmem
    have HML := Lib.hid hml
    clear NF hrr hmem hml
    go_upto_region 5 with fail
    have hA := Blk.new w2 28 #[.int .i64 5, .int .i64 0, .int .i64 0, .int .i64 0, .int .i64 ((r : Int) * 64), .int .i64 ((r : Int) * 64), .int .i64 63, .int .i64 0]
    have hBQ := (Below.refl w2.heap.size w2).alloc (Nat.le_refl _) (.cells #[.int .i64 5, .int .i64 0, .int .i64 0, .int .i64 0, .int .i64 ((r : Int) * 64), .int .i64 ((r : Int) * 64), .int .i64 63, .int .i64 0] 28)
    have HXQ := Lib.hid (HX2.out.alloc (.cells #[.int .i64 5, .int .i64 0, .int .i64 0, .int .i64 0, .int .i64 ((r : Int) * 64), .int .i64 ((r : Int) * 64), .int .i64 63, .int .i64 0] 28))
    have HBF := Lib.hid (HB2.out.alloc HB2.out.size (.cells #[.int .i64 5, .int .i64 0, .int .i64 0, .int .i64 0, .int .i64 ((r : Int) * 64), .int .i64 ((r : Int) * 64), .int .i64 63, .int .i64 0] 28))
    have HRQ := Lib.hid (((HR2.out.more hz2).below hBQ).more hBQ.size)
    clear hBQ
    have key : ∀ WQ : World, Blk WQ w2.heap.size 28 #[.int .i64 5, .int .i64 0, .int .i64 0, .int .i64 0, .int .i64 ((r : Int) * 64), .int .i64 ((r : Int) * 64), .int .i64 63, .int .i64 0] → Blk WQ w.heap.size 24 #[.int .i64 ra.op, .int .i64 ra.a, .int .i64 ra.b, .int .i64 ra.c] → RdI WQ WQ.heap.size A1 cd → Below w.heap.size w WQ →
        (∀ W : World, Below WQ.heap.size WQ W → W.cell? ⟨w2.heap.size, 0, none⟩ = some (.int .i64 5) ∧ W.cell? ⟨w2.heap.size, 1, none⟩ = some (.int .i64 0) ∧ W.cell? ⟨w2.heap.size, 2, none⟩ = some (.int .i64 0) ∧ W.cell? ⟨w2.heap.size, 3, none⟩ = some (.int .i64 0) ∧ W.cell? ⟨w2.heap.size, 4, none⟩ = some (.int .i64 ((r : Int) * 64)) ∧ W.cell? ⟨w2.heap.size, 5, none⟩ = some (.int .i64 ((r : Int) * 64)) ∧ W.cell? ⟨w2.heap.size, 6, none⟩ = some (.int .i64 63) ∧ W.cell? ⟨w2.heap.size, 7, none⟩ = some (.int .i64 0)) ∧
        (∀ W : World, Below WQ.heap.size WQ W → W.cell? ⟨w.heap.size, 0, none⟩ = some (.int .i64 ra.op) ∧ W.cell? ⟨w.heap.size, 1, none⟩ = some (.int .i64 ra.a) ∧ W.cell? ⟨w.heap.size, 2, none⟩ = some (.int .i64 ra.b) ∧ W.cell? ⟨w.heap.size, 3, none⟩ = some (.int .i64 ra.c)) ∧
        (∀ W : World, Below WQ.heap.size WQ W → Calls Tryd.prog 18 #[.agg #[.int .i64 ra.op, .int .i64 ra.a, .int .i64 ra.b, .int .i64 ra.c], .int .i64 1024] W fun e w' => ∃ V, e = .returned V ∧ w'.ownsRow W.heap.size 3 1 V mem.length (intCells mem) ∧ Below W.heap.size W w') ∧
        (∀ (W : World) (AM : Option Addr) (cM : Nat), Below WQ.heap.size WQ W → W.ownsRow WQ.heap.size 3 1 (.slice AM mem.length cM) mem.length (intCells mem) → Calls Tryd.prog 17 #[.slice A1 cd.length c1, .agg #[.int .i64 5, .int .i64 0, .int .i64 0, .int .i64 0, .int .i64 ((r : Int) * 64), .int .i64 ((r : Int) * 64), .int .i64 63, .int .i64 0], .slice AM mem.length cM, .int .i64 3000] W (RunPost W rr 0)) := by
      intro WQ hA hX hR hB
      refine ⟨fun W hW => ?_, fun W hW => ?_, fun W hW => ?_, fun W AM cM hW ho => ?_⟩
      · have hA' := hA.below hW hA.lt
        exact ⟨hA'.cell 0, hA'.cell 1, hA'.cell 2, hA'.cell 3, hA'.cell 4, hA'.cell 5, hA'.cell 6, hA'.cell 7⟩
      · have hX' := hX.below hW hX.lt
        exact ⟨hX'.cell 0, hX'.cell 1, hX'.cell 2, hX'.cell 3⟩
      · rw [HML.out, HMM.out]
        exact KMem_any ra hra 1024 (by omega) W
      · have := Run_any A1 AM c1 cM cd 5 0 0 0 ((r : Int) * 64) ((r : Int) * 64) 63 0 mem 3000 W ((hR.below hW).more hW.size) (HT.out.below (hB.trans (hW.mono hB.size))) (by have := HLN.out; unfold maxLen; omega) (RdN.of (Rd.of_own ho)) (by rw [HML.out]; decide) (own_nilN ho)
        rw [HRE.out, ← HRR.out] at this
        exact this
    have hA2 := hA
    generalize w2.alloc (.cells #[.int .i64 5, .int .i64 0, .int .i64 0, .int .i64 0, .int .i64 ((r : Int) * 64), .int .i64 ((r : Int) * 64), .int .i64 63, .int .i64 0] 28) = WQ at *
    obtain ⟨k1, k2, k3, k4⟩ := key WQ hA HXQ.out HRQ.out HBF.out
    clear key hA hA2
    refine tnReg WQ w2.heap.size w.heap.size ((r : Int) * 64) ra.op ra.a ra.b ra.c cd mem A1 c1 rr 0 WQ _ (below_drew1 _) k1 k2 k3 k4 ?_
    clear k1 k2 k3 k4
    intro listed W y13 y14 y31 y32 y33 y34 y35 y36 y37 y38 hall hJ
    obtain ⟨s, T, M, rfl, hge, hbl, hro⟩ := hJ.f9 (hall 9 (by decide))
    obtain rfl := hJ.f10 (hall 10 (by decide))
    have HF := Lib.hid (HBF.out.trans (hJ.w.mono HBF.out.size))
    have m0 : W.cell? ⟨s, 0, none⟩ = some (.int .i64 (rr.2 : Int)) := hbl.cell 0
    have sl := hbl.lt
    have e0 : ((rr.2 : Int) == 0) = false := by rw [beq_eq_false_iff_ne]; have := HN0.out; omega
    have e3 : ((rr.2 : Int) == 3) = false := by rw [beq_eq_false_iff_ne]; have := HN3.out; omega
    have g0 : ¬ ((rr.2 : Int) = 0) := by have := HN0.out; omega
    have g3 : ¬ ((rr.2 : Int) = 3) := by have := HN3.out; omega
    have HE3 : Hid (((rr.2 : Int) != 0 && (rr.2 : Int) != 3) = true) := by show _ = _; simp [bne, e0, e3]
    clear hJ hbl hro hge
    go_wp2
    go_ret
    exact ⟨ret_bool HE3.out, HF.out⟩
  · have hm := HCM.out hv
    subst hm
    rw [decide_eq_false hv]
    clear hv
    go_wp2
    go_ret
    exact ⟨rfl, HB1.out⟩
end Go.Proofs.YtdjamdbamkhblabDoor
