/- The walk of kern.Do: what it answers, for every kernel and act. Condition: the listed table, the run's contract (RunC). By an AI agent (xdo2.py). -/
import Derived.Test.YtdjamdbamkhblacDoorKDo
namespace Go.Proofs.YtdjamdbamkhblacDoor
open Go.RowKit
set_option linter.unusedVariables false
set_option linter.unusedSimpArgs false
attribute [local go_sem] After.cell
set_option maxRecDepth 100000 in
set_option maxHeartbeats 16000000 in
theorem do_plow (HR : RunC 156) (k : Krn) (a : KA) (xp xn xm : Int) (nm dt : ByteArray) (w : World) (hK : KrnAt w w.heap.size a k) (hS : k.small) (hC : a.caps k) (ht : Tab w) (hn : nm.size ≤ maxLen) (hd : dt.size ≤ maxLen) (hk : kcheck k = 0) (kd : Int) (h5 : 5 ≤ kd) (h11 : kd ≤ 11) (hx : xp < 0) :
    Calls Tryd.prog 40 #[.agg (a.cells k), .agg (⟨kd, xp, xn, xm, nm, dt⟩ : Akt).cells] w (DoPost w k ⟨kd, xp, xn, xm, nm, dt⟩) := by
  show Calls _ _ #[.agg #[.slice a.a0 k.mods.length a.c0, .slice a.a1 k.mem.length a.c1, .slice a.a2 k.nodes.length a.c2, .slice a.a3 k.pipes.length a.c3, .slice a.a4 k.procs.length a.c4], .agg #[.int .i64 kd, .int .i64 xp, .int .i64 xn, .int .i64 xm, .string nm, .string dt]] _ _
  have HR' := Lib.hid HR
  have HK0 := Lib.hid hK
  have HS0 := Lib.hid hS
  have HC0 := Lib.hid hC
  have HT0 := Lib.hid ht
  have HN := Lib.hid hn
  have HDT := Lib.hid hd
  have HTL := Lib.hid (show 1 < w.heap.size from ht.1)
  clear HR hK hS hC ht hn hd
  go_enter Tryd.func40, Tryd.ntmps40
  go_upto_region 1 with fail
  refine (show ∀ W : World, W = ((((w.alloc (.cells (a.cells k) 36)).alloc (.cells #[.int .i64 kd, .int .i64 xp, .int .i64 xn, .int .i64 xm, .string nm, .string dt] 26)).alloc (.cells #[.slice none 0 0, .slice none 0 0, .slice none 0 0, .slice none 0 0, .slice none 0 0] 36)).alloc (.cells #[.int .i64 0, .int .i64 0, .string ⟨#[]⟩] 41)) → Code.wp _ _ _ _ W from ?_) _ rfl
  intro W0 hW0
  have hn : W0.heap.size = w.heap.size + 4 := by rw [hW0]; simp
  have b0 : Blk W0 w.heap.size 36 (a.cells k) := by rw [hW0]; exact (((Blk.new w _ _).alloc _).alloc _).alloc _
  have b1 : Blk W0 (w.heap.size + 1) 26 #[.int .i64 kd, .int .i64 xp, .int .i64 xn, .int .i64 xm, .string nm, .string dt] := by rw [hW0]; exact ((Blk.new' (by simp)).alloc _).alloc _
  have b2 : Blk W0 (w.heap.size + 2) 36 #[.slice none 0 0, .slice none 0 0, .slice none 0 0, .slice none 0 0, .slice none 0 0] := by rw [hW0]; exact (Blk.new' (by simp)).alloc _
  have b3 : Blk W0 (w.heap.size + 3) 41 #[.int .i64 0, .int .i64 0, .string ⟨#[]⟩] := by rw [hW0]; exact Blk.new' (by simp)
  have hb0 : Below w.heap.size w W0 := by
    rw [hW0]
    exact ((((Below.refl w.heap.size w).alloc (Nat.le_refl _) _).alloc (by simp) _).alloc (by simp; omega) _).alloc (by simp; omega) _
  have HW0 := Lib.hid hW0
  have HCK := Lib.hid (KCheck_any k a W0 ((HK0.out.below hb0).more (by omega)) HS0.out HC0.out (HT0.out.below hb0))
  have HB := Lib.hid (show W0.heap.size = w.heap.size + 4 ∧ Below w.heap.size w W0 from ⟨hn, hb0⟩)
  have B0 := Lib.hid b0
  have B1 := Lib.hid b1
  have B2 := Lib.hid b2
  have B3 := Lib.hid b3
  obtain ⟨c0, c1, c2, c3, c4⟩ : W0.cell? ⟨w.heap.size, 0, none⟩ = some (.slice a.a0 k.mods.length a.c0) ∧ W0.cell? ⟨w.heap.size, 1, none⟩ = some (.slice a.a1 k.mem.length a.c1) ∧ W0.cell? ⟨w.heap.size, 2, none⟩ = some (.slice a.a2 k.nodes.length a.c2) ∧ W0.cell? ⟨w.heap.size, 3, none⟩ = some (.slice a.a3 k.pipes.length a.c3) ∧ W0.cell? ⟨w.heap.size, 4, none⟩ = some (.slice a.a4 k.procs.length a.c4) := ⟨b0.cell 0, b0.cell 1, b0.cell 2, b0.cell 3, b0.cell 4⟩
  have cl := b0.lt
  clear hW0 hn b0 b1 b2 b3 hb0
  unfold KA.cells at HCK
  go_wp2_with fail
  refine HCK.out.mono ?_
  rintro e w1 ⟨rfl, hb1⟩
  clear HCK c0 c1 c2 c3 c4 cl
  have HB1 := Lib.hid hb1
  have D0 := Lib.hid (B0.out.below hb1 B0.out.lt)
  have D1 := Lib.hid (B1.out.below hb1 B1.out.lt)
  have D2 := Lib.hid (B2.out.below hb1 B2.out.lt)
  have D3 := Lib.hid (B3.out.below hb1 B3.out.lt)
  have HBW := Lib.hid (HB.out.2.trans (hb1.mono (by have := HB.out.1; omega)))
  clear hb1 B0 B1 B2 B3
  rw [hk]
  have HK1 := Lib.hid hk
  clear hk
  have q1 : decide (kd < 1) = false := decide_eq_false (by omega)
  have q2 : decide (11 < kd) = false := decide_eq_false (by omega)
  have HK5 := Lib.hid (show 5 ≤ kd ∧ kd ≤ 11 from ⟨h5, h11⟩)
  have t1 : (kd == 1) = false := by rw [beq_eq_false_iff_ne]; omega
  have t2 : (kd == 2) = false := by rw [beq_eq_false_iff_ne]; omega
  have t3 : (kd == 3) = false := by rw [beq_eq_false_iff_ne]; omega
  have t4 : (kd == 4) = false := by rw [beq_eq_false_iff_ne]; omega
  have HV : Hid (doE k ⟨kd, xp, xn, xm, nm, dt⟩ = 0) := by show _ = _; unfold doE; rw [if_pos HK1.out, if_neg (by simp only; omega)]
  clear h5 h11
  have a0 := D1.out.cell 0
  have al := D1.out.lt
  simp at a0
  have HKO := Lib.hid ((kcheck_iff k).1 HK1.out)
  obtain ⟨c0, c1, c2, c3, c4⟩ : w1.cell? ⟨w.heap.size, 0, none⟩ = some (.slice a.a0 k.mods.length a.c0) ∧ w1.cell? ⟨w.heap.size, 1, none⟩ = some (.slice a.a1 k.mem.length a.c1) ∧ w1.cell? ⟨w.heap.size, 2, none⟩ = some (.slice a.a2 k.nodes.length a.c2) ∧ w1.cell? ⟨w.heap.size, 3, none⟩ = some (.slice a.a3 k.pipes.length a.c3) ∧ w1.cell? ⟨w.heap.size, 4, none⟩ = some (.slice a.a4 k.procs.length a.c4) := ⟨D0.out.cell 0, D0.out.cell 1, D0.out.cell 2, D0.out.cell 3, D0.out.cell 4⟩
  have cl := D0.out.lt
  have HCP := Lib.hid (Copy_own k a w1 ((HK0.out.below HBW.out).more HBW.out.size))
  unfold KA.cells at HCP
  go_wp2_with fail
  refine HCP.out.mono ?_
  rintro e w2 ⟨V0, V1, V2, V3, V4, ms, es, rfl, hCp, hb2⟩
  obtain ⟨A0, k0, rfl⟩ := own_slice hCp.mods
  obtain ⟨A1, k1, rfl⟩ := own_slice hCp.mem
  obtain ⟨A2, k2, rfl⟩ := own_slice hCp.nodes
  obtain ⟨A3, k3, rfl⟩ := own_slice hCp.pipes
  obtain ⟨A4, k4, rfl⟩ := own_slice hCp.procs
  have hD0 := DoAt.start (cs := #[.int .i64 kd, .int .i64 xp, .int .i64 xn, .int .i64 xm, .string nm, .string dt]) (zk := #[.slice none 0 0, .slice none 0 0, .slice none 0 0, .slice none 0 0, .slice none 0 0]) rfl HW0.out (HB1.out.trans (hb2.mono HB1.out.size)) (hCp.base HB1.out.size) HK0.out.fits
  have D0' := Lib.hid (D0.out.below hb2 D0.out.lt)
  obtain ⟨c0', c1', c2', c3', c4'⟩ : w2.cell? ⟨w.heap.size, 0, none⟩ = some (.slice a.a0 k.mods.length a.c0) ∧ w2.cell? ⟨w.heap.size, 1, none⟩ = some (.slice a.a1 k.mem.length a.c1) ∧ w2.cell? ⟨w.heap.size, 2, none⟩ = some (.slice a.a2 k.nodes.length a.c2) ∧ w2.cell? ⟨w.heap.size, 3, none⟩ = some (.slice a.a3 k.pipes.length a.c3) ∧ w2.cell? ⟨w.heap.size, 4, none⟩ = some (.slice a.a4 k.procs.length a.c4) := ⟨D0'.out.cell 0, D0'.out.cell 1, D0'.out.cell 2, D0'.out.cell 3, D0'.out.cell 4⟩
  have f0 := D0'.out.frozen 0
  have f1 := D0'.out.frozen 1
  have f2 := D0'.out.frozen 2
  have f3 := D0'.out.frozen 3
  have f4 := D0'.out.frozen 4
  have cl' := D0'.out.lt
  clear hCp hb2 HCP c0 c1 c2 c3 c4 cl a0 al
  go_upto_region 9 with fail
  refine (show ∀ W : World, DoAt w W ⟨A0, k0, A1, k1, A2, k2, A3, k3, A4, k4⟩ k ms es #[.int .i64 kd, .int .i64 xp, .int .i64 xn, .int .i64 xm, .string nm, .string dt] w2.heap.size (w2.heap.size + 1) 0 0 ⟨#[]⟩ → Code.wp _ _ _ _ W from ?_) _ hD0
  clear hD0 c0' c1' c2' c3' c4' f0 f1 f2 f3 f4 cl' D0' D0 D1 D2 D3 q1 q2
  intro W9 hD9
  have HD9 := Lib.hid hD9
  clear hD9
  obtain ⟨aa, haa⟩ : ∃ aa : KA, aa = ⟨A0, k0, A1, k1, A2, k2, A3, k3, A4, k4⟩ := ⟨_, rfl⟩
  rw [← haa] at HD9
  clear haa
  have HVD : Hid (doK k ⟨kd, xp, xn, xm, nm, dt⟩ = if 0 ≤ xp ∧ xp < 4 ∧ (k.procs.getD (xp).toNat default).live = true then byK k (xp).toNat ⟨kd, xp, xn, xm, nm, dt⟩ else (k, ansE 6)) := by
    show _ = _
    unfold doK
    simp only
    rw [if_neg (by have := HK5.out; omega), if_neg (by have := HK5.out; omega), if_neg (by have := HK5.out; omega), if_neg (by have := HK5.out; omega)]
  rw [if_neg (by omega)] at HVD
  have p1 : decide (xp < 0) = true := decide_eq_true hx
  clear hx
  have x0 := HD9.out.wk.cell 0
  have xl := HD9.out.wk.lt
  have a0 := HD9.out.ac.cell 0
  have a1 := HD9.out.ac.cell 1
  have al := HD9.out.ac.lt
  simp at x0 a0 a1
  have o0 := HD9.out.ot.cell 0
  have o1 := HD9.out.ot.cell 1
  have ol := HD9.out.ot.lt
  have of0 := HD9.out.ot.frozen 0
  have of1 := HD9.out.ot.frozen 1
  simp at o0 o1
  go_upto_region 25 with fail
  refine (show ∀ W : World, DoAt w W aa k ms es _ w2.heap.size (w2.heap.size + 1) 6 0 ⟨#[]⟩ → Code.wp _ _ _ _ W from ?_) _ ((HD9.out.set_ 0 (.int .i64 6) (v0 := 6) (v1 := 0) (t := ⟨#[]⟩) rfl))
  intro W25 hD
  clear HD9 o0 o1 ol of0 of1 x0 xl a0 a1 al
  obtain ⟨d0, d1, d2, d3, d4⟩ := hD.ks.c5
  have gl := hD.ks.blk.lt
  obtain ⟨ck, hkb, hks⟩ := hD.rk
  obtain ⟨rl, ⟨_, r0⟩, ⟨_, r1⟩, ⟨_, r2⟩, ⟨_, r3⟩, ⟨_, r4⟩⟩ := blk5 hkb hks
  have rf0 := hkb.frozen 0
  have rf1 := hkb.frozen 1
  have rf2 := hkb.frozen 2
  have rf3 := hkb.frozen 3
  have rf4 := hkb.frozen 4
  have q0 := hD.ra.cell 0
  have q1 := hD.ra.cell 1
  have q2 := hD.ra.cell 2
  have qf0 := hD.ra.frozen 0
  have qf1 := hD.ra.frozen 1
  have qf2 := hD.ra.frozen 2
  have ql := hD.ra.lt
  simp at q0 q1 q2
  have o0 := hD.ot.cell 0
  have o1 := hD.ot.cell 1
  have o2 := hD.ot.cell 2
  have ol := hD.ot.lt
  simp at o0 o1 o2
  have hbo := hD.bo3
  have hne1 : w2.heap.size + 1 ≠ w.heap.size + 2 := by omega
  have hne2 : w2.heap.size + 1 ≠ w.heap.size + 3 := by omega
  have HD := Lib.hid hD
  clear hD hkb hks
  go_region
  all_goals
    go_wp2
    refine bodyPost_ret (v := .tuple #[.agg #[.slice aa.a0 k.mods.length aa.c0, .slice aa.a1 k.mem.length aa.c1, .slice aa.a2 k.nodes.length aa.c2, .slice aa.a3 k.pipes.length aa.c3, .slice aa.a4 k.procs.length aa.c4], .agg #[.int .i64 (6), .int .i64 (0), .string (⟨#[]⟩)], .int .i64 0]) (by simp [results, Tryd.results40, go_sem, r0, r1, r2, r3, r4, q0, q1, q2]) rfl ?_
    exact (HD.out.fin HV.out HVD.out rfl).drew
set_option maxRecDepth 100000 in
set_option maxHeartbeats 16000000 in
theorem do_phigh (HR : RunC 156) (k : Krn) (a : KA) (xp xn xm : Int) (nm dt : ByteArray) (w : World) (hK : KrnAt w w.heap.size a k) (hS : k.small) (hC : a.caps k) (ht : Tab w) (hn : nm.size ≤ maxLen) (hd : dt.size ≤ maxLen) (hk : kcheck k = 0) (kd : Int) (h5 : 5 ≤ kd) (h11 : kd ≤ 11) (hx : 4 ≤ xp) :
    Calls Tryd.prog 40 #[.agg (a.cells k), .agg (⟨kd, xp, xn, xm, nm, dt⟩ : Akt).cells] w (DoPost w k ⟨kd, xp, xn, xm, nm, dt⟩) := by
  show Calls _ _ #[.agg #[.slice a.a0 k.mods.length a.c0, .slice a.a1 k.mem.length a.c1, .slice a.a2 k.nodes.length a.c2, .slice a.a3 k.pipes.length a.c3, .slice a.a4 k.procs.length a.c4], .agg #[.int .i64 kd, .int .i64 xp, .int .i64 xn, .int .i64 xm, .string nm, .string dt]] _ _
  have HR' := Lib.hid HR
  have HK0 := Lib.hid hK
  have HS0 := Lib.hid hS
  have HC0 := Lib.hid hC
  have HT0 := Lib.hid ht
  have HN := Lib.hid hn
  have HDT := Lib.hid hd
  have HTL := Lib.hid (show 1 < w.heap.size from ht.1)
  clear HR hK hS hC ht hn hd
  go_enter Tryd.func40, Tryd.ntmps40
  go_upto_region 1 with fail
  refine (show ∀ W : World, W = ((((w.alloc (.cells (a.cells k) 36)).alloc (.cells #[.int .i64 kd, .int .i64 xp, .int .i64 xn, .int .i64 xm, .string nm, .string dt] 26)).alloc (.cells #[.slice none 0 0, .slice none 0 0, .slice none 0 0, .slice none 0 0, .slice none 0 0] 36)).alloc (.cells #[.int .i64 0, .int .i64 0, .string ⟨#[]⟩] 41)) → Code.wp _ _ _ _ W from ?_) _ rfl
  intro W0 hW0
  have hn : W0.heap.size = w.heap.size + 4 := by rw [hW0]; simp
  have b0 : Blk W0 w.heap.size 36 (a.cells k) := by rw [hW0]; exact (((Blk.new w _ _).alloc _).alloc _).alloc _
  have b1 : Blk W0 (w.heap.size + 1) 26 #[.int .i64 kd, .int .i64 xp, .int .i64 xn, .int .i64 xm, .string nm, .string dt] := by rw [hW0]; exact ((Blk.new' (by simp)).alloc _).alloc _
  have b2 : Blk W0 (w.heap.size + 2) 36 #[.slice none 0 0, .slice none 0 0, .slice none 0 0, .slice none 0 0, .slice none 0 0] := by rw [hW0]; exact (Blk.new' (by simp)).alloc _
  have b3 : Blk W0 (w.heap.size + 3) 41 #[.int .i64 0, .int .i64 0, .string ⟨#[]⟩] := by rw [hW0]; exact Blk.new' (by simp)
  have hb0 : Below w.heap.size w W0 := by
    rw [hW0]
    exact ((((Below.refl w.heap.size w).alloc (Nat.le_refl _) _).alloc (by simp) _).alloc (by simp; omega) _).alloc (by simp; omega) _
  have HW0 := Lib.hid hW0
  have HCK := Lib.hid (KCheck_any k a W0 ((HK0.out.below hb0).more (by omega)) HS0.out HC0.out (HT0.out.below hb0))
  have HB := Lib.hid (show W0.heap.size = w.heap.size + 4 ∧ Below w.heap.size w W0 from ⟨hn, hb0⟩)
  have B0 := Lib.hid b0
  have B1 := Lib.hid b1
  have B2 := Lib.hid b2
  have B3 := Lib.hid b3
  obtain ⟨c0, c1, c2, c3, c4⟩ : W0.cell? ⟨w.heap.size, 0, none⟩ = some (.slice a.a0 k.mods.length a.c0) ∧ W0.cell? ⟨w.heap.size, 1, none⟩ = some (.slice a.a1 k.mem.length a.c1) ∧ W0.cell? ⟨w.heap.size, 2, none⟩ = some (.slice a.a2 k.nodes.length a.c2) ∧ W0.cell? ⟨w.heap.size, 3, none⟩ = some (.slice a.a3 k.pipes.length a.c3) ∧ W0.cell? ⟨w.heap.size, 4, none⟩ = some (.slice a.a4 k.procs.length a.c4) := ⟨b0.cell 0, b0.cell 1, b0.cell 2, b0.cell 3, b0.cell 4⟩
  have cl := b0.lt
  clear hW0 hn b0 b1 b2 b3 hb0
  unfold KA.cells at HCK
  go_wp2_with fail
  refine HCK.out.mono ?_
  rintro e w1 ⟨rfl, hb1⟩
  clear HCK c0 c1 c2 c3 c4 cl
  have HB1 := Lib.hid hb1
  have D0 := Lib.hid (B0.out.below hb1 B0.out.lt)
  have D1 := Lib.hid (B1.out.below hb1 B1.out.lt)
  have D2 := Lib.hid (B2.out.below hb1 B2.out.lt)
  have D3 := Lib.hid (B3.out.below hb1 B3.out.lt)
  have HBW := Lib.hid (HB.out.2.trans (hb1.mono (by have := HB.out.1; omega)))
  clear hb1 B0 B1 B2 B3
  rw [hk]
  have HK1 := Lib.hid hk
  clear hk
  have q1 : decide (kd < 1) = false := decide_eq_false (by omega)
  have q2 : decide (11 < kd) = false := decide_eq_false (by omega)
  have HK5 := Lib.hid (show 5 ≤ kd ∧ kd ≤ 11 from ⟨h5, h11⟩)
  have t1 : (kd == 1) = false := by rw [beq_eq_false_iff_ne]; omega
  have t2 : (kd == 2) = false := by rw [beq_eq_false_iff_ne]; omega
  have t3 : (kd == 3) = false := by rw [beq_eq_false_iff_ne]; omega
  have t4 : (kd == 4) = false := by rw [beq_eq_false_iff_ne]; omega
  have HV : Hid (doE k ⟨kd, xp, xn, xm, nm, dt⟩ = 0) := by show _ = _; unfold doE; rw [if_pos HK1.out, if_neg (by simp only; omega)]
  clear h5 h11
  have a0 := D1.out.cell 0
  have al := D1.out.lt
  simp at a0
  have HKO := Lib.hid ((kcheck_iff k).1 HK1.out)
  obtain ⟨c0, c1, c2, c3, c4⟩ : w1.cell? ⟨w.heap.size, 0, none⟩ = some (.slice a.a0 k.mods.length a.c0) ∧ w1.cell? ⟨w.heap.size, 1, none⟩ = some (.slice a.a1 k.mem.length a.c1) ∧ w1.cell? ⟨w.heap.size, 2, none⟩ = some (.slice a.a2 k.nodes.length a.c2) ∧ w1.cell? ⟨w.heap.size, 3, none⟩ = some (.slice a.a3 k.pipes.length a.c3) ∧ w1.cell? ⟨w.heap.size, 4, none⟩ = some (.slice a.a4 k.procs.length a.c4) := ⟨D0.out.cell 0, D0.out.cell 1, D0.out.cell 2, D0.out.cell 3, D0.out.cell 4⟩
  have cl := D0.out.lt
  have HCP := Lib.hid (Copy_own k a w1 ((HK0.out.below HBW.out).more HBW.out.size))
  unfold KA.cells at HCP
  go_wp2_with fail
  refine HCP.out.mono ?_
  rintro e w2 ⟨V0, V1, V2, V3, V4, ms, es, rfl, hCp, hb2⟩
  obtain ⟨A0, k0, rfl⟩ := own_slice hCp.mods
  obtain ⟨A1, k1, rfl⟩ := own_slice hCp.mem
  obtain ⟨A2, k2, rfl⟩ := own_slice hCp.nodes
  obtain ⟨A3, k3, rfl⟩ := own_slice hCp.pipes
  obtain ⟨A4, k4, rfl⟩ := own_slice hCp.procs
  have hD0 := DoAt.start (cs := #[.int .i64 kd, .int .i64 xp, .int .i64 xn, .int .i64 xm, .string nm, .string dt]) (zk := #[.slice none 0 0, .slice none 0 0, .slice none 0 0, .slice none 0 0, .slice none 0 0]) rfl HW0.out (HB1.out.trans (hb2.mono HB1.out.size)) (hCp.base HB1.out.size) HK0.out.fits
  have D0' := Lib.hid (D0.out.below hb2 D0.out.lt)
  obtain ⟨c0', c1', c2', c3', c4'⟩ : w2.cell? ⟨w.heap.size, 0, none⟩ = some (.slice a.a0 k.mods.length a.c0) ∧ w2.cell? ⟨w.heap.size, 1, none⟩ = some (.slice a.a1 k.mem.length a.c1) ∧ w2.cell? ⟨w.heap.size, 2, none⟩ = some (.slice a.a2 k.nodes.length a.c2) ∧ w2.cell? ⟨w.heap.size, 3, none⟩ = some (.slice a.a3 k.pipes.length a.c3) ∧ w2.cell? ⟨w.heap.size, 4, none⟩ = some (.slice a.a4 k.procs.length a.c4) := ⟨D0'.out.cell 0, D0'.out.cell 1, D0'.out.cell 2, D0'.out.cell 3, D0'.out.cell 4⟩
  have f0 := D0'.out.frozen 0
  have f1 := D0'.out.frozen 1
  have f2 := D0'.out.frozen 2
  have f3 := D0'.out.frozen 3
  have f4 := D0'.out.frozen 4
  have cl' := D0'.out.lt
  clear hCp hb2 HCP c0 c1 c2 c3 c4 cl a0 al
  go_upto_region 9 with fail
  refine (show ∀ W : World, DoAt w W ⟨A0, k0, A1, k1, A2, k2, A3, k3, A4, k4⟩ k ms es #[.int .i64 kd, .int .i64 xp, .int .i64 xn, .int .i64 xm, .string nm, .string dt] w2.heap.size (w2.heap.size + 1) 0 0 ⟨#[]⟩ → Code.wp _ _ _ _ W from ?_) _ hD0
  clear hD0 c0' c1' c2' c3' c4' f0 f1 f2 f3 f4 cl' D0' D0 D1 D2 D3 q1 q2
  intro W9 hD9
  have HD9 := Lib.hid hD9
  clear hD9
  obtain ⟨aa, haa⟩ : ∃ aa : KA, aa = ⟨A0, k0, A1, k1, A2, k2, A3, k3, A4, k4⟩ := ⟨_, rfl⟩
  rw [← haa] at HD9
  clear haa
  have HVD : Hid (doK k ⟨kd, xp, xn, xm, nm, dt⟩ = if 0 ≤ xp ∧ xp < 4 ∧ (k.procs.getD (xp).toNat default).live = true then byK k (xp).toNat ⟨kd, xp, xn, xm, nm, dt⟩ else (k, ansE 6)) := by
    show _ = _
    unfold doK
    simp only
    rw [if_neg (by have := HK5.out; omega), if_neg (by have := HK5.out; omega), if_neg (by have := HK5.out; omega), if_neg (by have := HK5.out; omega)]
  rw [if_neg (by omega)] at HVD
  have p1 : decide (xp < 0) = false := decide_eq_false (by omega)
  have p2 : decide (4 ≤ xp) = true := decide_eq_true hx
  clear hx
  have x0 := HD9.out.wk.cell 0
  have xl := HD9.out.wk.lt
  have a0 := HD9.out.ac.cell 0
  have a1 := HD9.out.ac.cell 1
  have al := HD9.out.ac.lt
  simp at x0 a0 a1
  have o0 := HD9.out.ot.cell 0
  have o1 := HD9.out.ot.cell 1
  have ol := HD9.out.ot.lt
  have of0 := HD9.out.ot.frozen 0
  have of1 := HD9.out.ot.frozen 1
  simp at o0 o1
  go_upto_region 25 with fail
  refine (show ∀ W : World, DoAt w W aa k ms es _ w2.heap.size (w2.heap.size + 1) 6 0 ⟨#[]⟩ → Code.wp _ _ _ _ W from ?_) _ ((HD9.out.set_ 0 (.int .i64 6) (v0 := 6) (v1 := 0) (t := ⟨#[]⟩) rfl))
  intro W25 hD
  clear HD9 o0 o1 ol of0 of1 x0 xl a0 a1 al
  obtain ⟨d0, d1, d2, d3, d4⟩ := hD.ks.c5
  have gl := hD.ks.blk.lt
  obtain ⟨ck, hkb, hks⟩ := hD.rk
  obtain ⟨rl, ⟨_, r0⟩, ⟨_, r1⟩, ⟨_, r2⟩, ⟨_, r3⟩, ⟨_, r4⟩⟩ := blk5 hkb hks
  have rf0 := hkb.frozen 0
  have rf1 := hkb.frozen 1
  have rf2 := hkb.frozen 2
  have rf3 := hkb.frozen 3
  have rf4 := hkb.frozen 4
  have q0 := hD.ra.cell 0
  have q1 := hD.ra.cell 1
  have q2 := hD.ra.cell 2
  have qf0 := hD.ra.frozen 0
  have qf1 := hD.ra.frozen 1
  have qf2 := hD.ra.frozen 2
  have ql := hD.ra.lt
  simp at q0 q1 q2
  have o0 := hD.ot.cell 0
  have o1 := hD.ot.cell 1
  have o2 := hD.ot.cell 2
  have ol := hD.ot.lt
  simp at o0 o1 o2
  have hbo := hD.bo3
  have hne1 : w2.heap.size + 1 ≠ w.heap.size + 2 := by omega
  have hne2 : w2.heap.size + 1 ≠ w.heap.size + 3 := by omega
  have HD := Lib.hid hD
  clear hD hkb hks
  go_region
  all_goals
    go_wp2
    refine bodyPost_ret (v := .tuple #[.agg #[.slice aa.a0 k.mods.length aa.c0, .slice aa.a1 k.mem.length aa.c1, .slice aa.a2 k.nodes.length aa.c2, .slice aa.a3 k.pipes.length aa.c3, .slice aa.a4 k.procs.length aa.c4], .agg #[.int .i64 (6), .int .i64 (0), .string (⟨#[]⟩)], .int .i64 0]) (by simp [results, Tryd.results40, go_sem, r0, r1, r2, r3, r4, q0, q1, q2]) rfl ?_
    exact (HD.out.fin HV.out HVD.out rfl).drew
set_option maxRecDepth 100000 in
set_option maxHeartbeats 16000000 in
theorem do_pdead (HR : RunC 156) (k : Krn) (a : KA) (xn xm : Int) (nm dt : ByteArray) (w : World) (hK : KrnAt w w.heap.size a k) (hS : k.small) (hC : a.caps k) (ht : Tab w) (hn : nm.size ≤ maxLen) (hd : dt.size ≤ maxLen) (hk : kcheck k = 0) (kd : Int) (h5 : 5 ≤ kd) (h11 : kd ≤ 11) (p : Nat) (hp4 : p < 4) (hlv : (k.procs.getD p default).live = false) :
    Calls Tryd.prog 40 #[.agg (a.cells k), .agg (⟨kd, (p : Int), xn, xm, nm, dt⟩ : Akt).cells] w (DoPost w k ⟨kd, (p : Int), xn, xm, nm, dt⟩) := by
  show Calls _ _ #[.agg #[.slice a.a0 k.mods.length a.c0, .slice a.a1 k.mem.length a.c1, .slice a.a2 k.nodes.length a.c2, .slice a.a3 k.pipes.length a.c3, .slice a.a4 k.procs.length a.c4], .agg #[.int .i64 kd, .int .i64 (p : Int), .int .i64 xn, .int .i64 xm, .string nm, .string dt]] _ _
  have HR' := Lib.hid HR
  have HK0 := Lib.hid hK
  have HS0 := Lib.hid hS
  have HC0 := Lib.hid hC
  have HT0 := Lib.hid ht
  have HN := Lib.hid hn
  have HDT := Lib.hid hd
  have HTL := Lib.hid (show 1 < w.heap.size from ht.1)
  clear HR hK hS hC ht hn hd
  go_enter Tryd.func40, Tryd.ntmps40
  go_upto_region 1 with fail
  refine (show ∀ W : World, W = ((((w.alloc (.cells (a.cells k) 36)).alloc (.cells #[.int .i64 kd, .int .i64 (p : Int), .int .i64 xn, .int .i64 xm, .string nm, .string dt] 26)).alloc (.cells #[.slice none 0 0, .slice none 0 0, .slice none 0 0, .slice none 0 0, .slice none 0 0] 36)).alloc (.cells #[.int .i64 0, .int .i64 0, .string ⟨#[]⟩] 41)) → Code.wp _ _ _ _ W from ?_) _ rfl
  intro W0 hW0
  have hn : W0.heap.size = w.heap.size + 4 := by rw [hW0]; simp
  have b0 : Blk W0 w.heap.size 36 (a.cells k) := by rw [hW0]; exact (((Blk.new w _ _).alloc _).alloc _).alloc _
  have b1 : Blk W0 (w.heap.size + 1) 26 #[.int .i64 kd, .int .i64 (p : Int), .int .i64 xn, .int .i64 xm, .string nm, .string dt] := by rw [hW0]; exact ((Blk.new' (by simp)).alloc _).alloc _
  have b2 : Blk W0 (w.heap.size + 2) 36 #[.slice none 0 0, .slice none 0 0, .slice none 0 0, .slice none 0 0, .slice none 0 0] := by rw [hW0]; exact (Blk.new' (by simp)).alloc _
  have b3 : Blk W0 (w.heap.size + 3) 41 #[.int .i64 0, .int .i64 0, .string ⟨#[]⟩] := by rw [hW0]; exact Blk.new' (by simp)
  have hb0 : Below w.heap.size w W0 := by
    rw [hW0]
    exact ((((Below.refl w.heap.size w).alloc (Nat.le_refl _) _).alloc (by simp) _).alloc (by simp; omega) _).alloc (by simp; omega) _
  have HW0 := Lib.hid hW0
  have HCK := Lib.hid (KCheck_any k a W0 ((HK0.out.below hb0).more (by omega)) HS0.out HC0.out (HT0.out.below hb0))
  have HB := Lib.hid (show W0.heap.size = w.heap.size + 4 ∧ Below w.heap.size w W0 from ⟨hn, hb0⟩)
  have B0 := Lib.hid b0
  have B1 := Lib.hid b1
  have B2 := Lib.hid b2
  have B3 := Lib.hid b3
  obtain ⟨c0, c1, c2, c3, c4⟩ : W0.cell? ⟨w.heap.size, 0, none⟩ = some (.slice a.a0 k.mods.length a.c0) ∧ W0.cell? ⟨w.heap.size, 1, none⟩ = some (.slice a.a1 k.mem.length a.c1) ∧ W0.cell? ⟨w.heap.size, 2, none⟩ = some (.slice a.a2 k.nodes.length a.c2) ∧ W0.cell? ⟨w.heap.size, 3, none⟩ = some (.slice a.a3 k.pipes.length a.c3) ∧ W0.cell? ⟨w.heap.size, 4, none⟩ = some (.slice a.a4 k.procs.length a.c4) := ⟨b0.cell 0, b0.cell 1, b0.cell 2, b0.cell 3, b0.cell 4⟩
  have cl := b0.lt
  clear hW0 hn b0 b1 b2 b3 hb0
  unfold KA.cells at HCK
  go_wp2_with fail
  refine HCK.out.mono ?_
  rintro e w1 ⟨rfl, hb1⟩
  clear HCK c0 c1 c2 c3 c4 cl
  have HB1 := Lib.hid hb1
  have D0 := Lib.hid (B0.out.below hb1 B0.out.lt)
  have D1 := Lib.hid (B1.out.below hb1 B1.out.lt)
  have D2 := Lib.hid (B2.out.below hb1 B2.out.lt)
  have D3 := Lib.hid (B3.out.below hb1 B3.out.lt)
  have HBW := Lib.hid (HB.out.2.trans (hb1.mono (by have := HB.out.1; omega)))
  clear hb1 B0 B1 B2 B3
  rw [hk]
  have HK1 := Lib.hid hk
  clear hk
  have q1 : decide (kd < 1) = false := decide_eq_false (by omega)
  have q2 : decide (11 < kd) = false := decide_eq_false (by omega)
  have HK5 := Lib.hid (show 5 ≤ kd ∧ kd ≤ 11 from ⟨h5, h11⟩)
  have t1 : (kd == 1) = false := by rw [beq_eq_false_iff_ne]; omega
  have t2 : (kd == 2) = false := by rw [beq_eq_false_iff_ne]; omega
  have t3 : (kd == 3) = false := by rw [beq_eq_false_iff_ne]; omega
  have t4 : (kd == 4) = false := by rw [beq_eq_false_iff_ne]; omega
  have HV : Hid (doE k ⟨kd, (p : Int), xn, xm, nm, dt⟩ = 0) := by show _ = _; unfold doE; rw [if_pos HK1.out, if_neg (by simp only; omega)]
  clear h5 h11
  have a0 := D1.out.cell 0
  have al := D1.out.lt
  simp at a0
  have HKO := Lib.hid ((kcheck_iff k).1 HK1.out)
  obtain ⟨c0, c1, c2, c3, c4⟩ : w1.cell? ⟨w.heap.size, 0, none⟩ = some (.slice a.a0 k.mods.length a.c0) ∧ w1.cell? ⟨w.heap.size, 1, none⟩ = some (.slice a.a1 k.mem.length a.c1) ∧ w1.cell? ⟨w.heap.size, 2, none⟩ = some (.slice a.a2 k.nodes.length a.c2) ∧ w1.cell? ⟨w.heap.size, 3, none⟩ = some (.slice a.a3 k.pipes.length a.c3) ∧ w1.cell? ⟨w.heap.size, 4, none⟩ = some (.slice a.a4 k.procs.length a.c4) := ⟨D0.out.cell 0, D0.out.cell 1, D0.out.cell 2, D0.out.cell 3, D0.out.cell 4⟩
  have cl := D0.out.lt
  have HCP := Lib.hid (Copy_own k a w1 ((HK0.out.below HBW.out).more HBW.out.size))
  unfold KA.cells at HCP
  go_wp2_with fail
  refine HCP.out.mono ?_
  rintro e w2 ⟨V0, V1, V2, V3, V4, ms, es, rfl, hCp, hb2⟩
  obtain ⟨A0, k0, rfl⟩ := own_slice hCp.mods
  obtain ⟨A1, k1, rfl⟩ := own_slice hCp.mem
  obtain ⟨A2, k2, rfl⟩ := own_slice hCp.nodes
  obtain ⟨A3, k3, rfl⟩ := own_slice hCp.pipes
  obtain ⟨A4, k4, rfl⟩ := own_slice hCp.procs
  have hD0 := DoAt.start (cs := #[.int .i64 kd, .int .i64 (p : Int), .int .i64 xn, .int .i64 xm, .string nm, .string dt]) (zk := #[.slice none 0 0, .slice none 0 0, .slice none 0 0, .slice none 0 0, .slice none 0 0]) rfl HW0.out (HB1.out.trans (hb2.mono HB1.out.size)) (hCp.base HB1.out.size) HK0.out.fits
  have D0' := Lib.hid (D0.out.below hb2 D0.out.lt)
  obtain ⟨c0', c1', c2', c3', c4'⟩ : w2.cell? ⟨w.heap.size, 0, none⟩ = some (.slice a.a0 k.mods.length a.c0) ∧ w2.cell? ⟨w.heap.size, 1, none⟩ = some (.slice a.a1 k.mem.length a.c1) ∧ w2.cell? ⟨w.heap.size, 2, none⟩ = some (.slice a.a2 k.nodes.length a.c2) ∧ w2.cell? ⟨w.heap.size, 3, none⟩ = some (.slice a.a3 k.pipes.length a.c3) ∧ w2.cell? ⟨w.heap.size, 4, none⟩ = some (.slice a.a4 k.procs.length a.c4) := ⟨D0'.out.cell 0, D0'.out.cell 1, D0'.out.cell 2, D0'.out.cell 3, D0'.out.cell 4⟩
  have f0 := D0'.out.frozen 0
  have f1 := D0'.out.frozen 1
  have f2 := D0'.out.frozen 2
  have f3 := D0'.out.frozen 3
  have f4 := D0'.out.frozen 4
  have cl' := D0'.out.lt
  clear hCp hb2 HCP c0 c1 c2 c3 c4 cl a0 al
  go_upto_region 9 with fail
  refine (show ∀ W : World, DoAt w W ⟨A0, k0, A1, k1, A2, k2, A3, k3, A4, k4⟩ k ms es #[.int .i64 kd, .int .i64 (p : Int), .int .i64 xn, .int .i64 xm, .string nm, .string dt] w2.heap.size (w2.heap.size + 1) 0 0 ⟨#[]⟩ → Code.wp _ _ _ _ W from ?_) _ hD0
  clear hD0 c0' c1' c2' c3' c4' f0 f1 f2 f3 f4 cl' D0' D0 D1 D2 D3 q1 q2
  intro W9 hD9
  have HD9 := Lib.hid hD9
  clear hD9
  obtain ⟨aa, haa⟩ : ∃ aa : KA, aa = ⟨A0, k0, A1, k1, A2, k2, A3, k3, A4, k4⟩ := ⟨_, rfl⟩
  rw [← haa] at HD9
  clear haa
  have HVD : Hid (doK k ⟨kd, (p : Int), xn, xm, nm, dt⟩ = if 0 ≤ (p : Int) ∧ (p : Int) < 4 ∧ (k.procs.getD ((p : Int)).toNat default).live = true then byK k ((p : Int)).toNat ⟨kd, (p : Int), xn, xm, nm, dt⟩ else (k, ansE 6)) := by
    show _ = _
    unfold doK
    simp only
    rw [if_neg (by have := HK5.out; omega), if_neg (by have := HK5.out; omega), if_neg (by have := HK5.out; omega), if_neg (by have := HK5.out; omega)]
  rw [Int.toNat_natCast] at HVD
  have p1 : decide ((p : Int) < 0) = false := decide_eq_false (by omega)
  have p2 : decide (4 ≤ (p : Int)) = false := decide_eq_false (by omega)
  have hp4i : (p : Int) < 4 := by omega
  have hpl : p < k.procs.length := by have := HKO.out.l4; omega
  have hel : 0 < k.procs[p].ends.length := by
    have := ends_len HKO.out hp4
    rw [getD_eq hpl] at this
    omega
  obtain ⟨b4, be, c, hp', ha4, _, bl, _, _, _, _, z0, z1⟩ := HD9.out.ks.prcAt hpl hel
  have d4 : W9.cell? ⟨w.heap.size, 4, none⟩ = some (.slice (some ⟨b4, 0, none⟩) 4 aa.c4) := by
    have := HD9.out.ks.c5.2.2.2.2
    rw [ha4, HKO.out.l4] at this
    exact this
  have gl := HD9.out.ks.blk.lt
  have HA4 := Lib.hid ha4
  rw [getD_eq hpl] at hlv
  rw [getD_eq hpl, hlv] at HVD
  rw [hlv] at z0
  clear hlv z1 ha4 hel
  rw [if_neg (by rintro ⟨_, _, h⟩; cases h)] at HVD
  have x0 := HD9.out.wk.cell 0
  have xl := HD9.out.wk.lt
  have a0 := HD9.out.ac.cell 0
  have a1 := HD9.out.ac.cell 1
  have al := HD9.out.ac.lt
  simp at x0 a0 a1
  have o0 := HD9.out.ot.cell 0
  have o1 := HD9.out.ot.cell 1
  have ol := HD9.out.ot.lt
  have of0 := HD9.out.ot.frozen 0
  have of1 := HD9.out.ot.frozen 1
  simp at o0 o1
  go_upto_region 25 with fail
  refine (show ∀ W : World, DoAt w W aa k ms es _ w2.heap.size (w2.heap.size + 1) 6 0 ⟨#[]⟩ → Code.wp _ _ _ _ W from ?_) _ ((HD9.out.set_ 0 (.int .i64 6) (v0 := 6) (v1 := 0) (t := ⟨#[]⟩) rfl))
  intro W25 hD
  clear HD9 o0 o1 ol of0 of1 x0 xl a0 a1 al z0 d4 gl bl
  obtain ⟨d0, d1, d2, d3, d4⟩ := hD.ks.c5
  have gl := hD.ks.blk.lt
  obtain ⟨ck, hkb, hks⟩ := hD.rk
  obtain ⟨rl, ⟨_, r0⟩, ⟨_, r1⟩, ⟨_, r2⟩, ⟨_, r3⟩, ⟨_, r4⟩⟩ := blk5 hkb hks
  have rf0 := hkb.frozen 0
  have rf1 := hkb.frozen 1
  have rf2 := hkb.frozen 2
  have rf3 := hkb.frozen 3
  have rf4 := hkb.frozen 4
  have q0 := hD.ra.cell 0
  have q1 := hD.ra.cell 1
  have q2 := hD.ra.cell 2
  have qf0 := hD.ra.frozen 0
  have qf1 := hD.ra.frozen 1
  have qf2 := hD.ra.frozen 2
  have ql := hD.ra.lt
  simp at q0 q1 q2
  have o0 := hD.ot.cell 0
  have o1 := hD.ot.cell 1
  have o2 := hD.ot.cell 2
  have ol := hD.ot.lt
  simp at o0 o1 o2
  have hbo := hD.bo3
  have hne1 : w2.heap.size + 1 ≠ w.heap.size + 2 := by omega
  have hne2 : w2.heap.size + 1 ≠ w.heap.size + 3 := by omega
  have HD := Lib.hid hD
  clear hD hkb hks
  go_region
  all_goals
    go_wp2
    refine bodyPost_ret (v := .tuple #[.agg #[.slice aa.a0 k.mods.length aa.c0, .slice aa.a1 k.mem.length aa.c1, .slice aa.a2 k.nodes.length aa.c2, .slice aa.a3 k.pipes.length aa.c3, .slice aa.a4 k.procs.length aa.c4], .agg #[.int .i64 (6), .int .i64 (0), .string (⟨#[]⟩)], .int .i64 0]) (by simp [results, Tryd.results40, go_sem, r0, r1, r2, r3, r4, q0, q1, q2]) rfl ?_
    exact (HD.out.fin HV.out HVD.out rfl).drew
set_option maxRecDepth 100000 in
set_option maxHeartbeats 16000000 in
theorem do_p (HR : RunC 156) (k : Krn) (a : KA) (xn xm : Int) (nm dt : ByteArray) (w : World) (hK : KrnAt w w.heap.size a k) (hS : k.small) (hC : a.caps k) (ht : Tab w) (hn : nm.size ≤ maxLen) (hd : dt.size ≤ maxLen) (hk : kcheck k = 0) (kd : Int) (h5 : 5 ≤ kd) (h11 : kd ≤ 11) (p : Nat) (hp4 : p < 4) (hlv : (k.procs.getD p default).live = true) :
    Calls Tryd.prog 40 #[.agg (a.cells k), .agg (⟨kd, (p : Int), xn, xm, nm, dt⟩ : Akt).cells] w (DoPost w k ⟨kd, (p : Int), xn, xm, nm, dt⟩) := by
  show Calls _ _ #[.agg #[.slice a.a0 k.mods.length a.c0, .slice a.a1 k.mem.length a.c1, .slice a.a2 k.nodes.length a.c2, .slice a.a3 k.pipes.length a.c3, .slice a.a4 k.procs.length a.c4], .agg #[.int .i64 kd, .int .i64 (p : Int), .int .i64 xn, .int .i64 xm, .string nm, .string dt]] _ _
  have HR' := Lib.hid HR
  have HK0 := Lib.hid hK
  have HS0 := Lib.hid hS
  have HC0 := Lib.hid hC
  have HT0 := Lib.hid ht
  have HN := Lib.hid hn
  have HDT := Lib.hid hd
  have HTL := Lib.hid (show 1 < w.heap.size from ht.1)
  clear HR hK hS hC ht hn hd
  go_enter Tryd.func40, Tryd.ntmps40
  go_upto_region 1 with fail
  refine (show ∀ W : World, W = ((((w.alloc (.cells (a.cells k) 36)).alloc (.cells #[.int .i64 kd, .int .i64 (p : Int), .int .i64 xn, .int .i64 xm, .string nm, .string dt] 26)).alloc (.cells #[.slice none 0 0, .slice none 0 0, .slice none 0 0, .slice none 0 0, .slice none 0 0] 36)).alloc (.cells #[.int .i64 0, .int .i64 0, .string ⟨#[]⟩] 41)) → Code.wp _ _ _ _ W from ?_) _ rfl
  intro W0 hW0
  have hn : W0.heap.size = w.heap.size + 4 := by rw [hW0]; simp
  have b0 : Blk W0 w.heap.size 36 (a.cells k) := by rw [hW0]; exact (((Blk.new w _ _).alloc _).alloc _).alloc _
  have b1 : Blk W0 (w.heap.size + 1) 26 #[.int .i64 kd, .int .i64 (p : Int), .int .i64 xn, .int .i64 xm, .string nm, .string dt] := by rw [hW0]; exact ((Blk.new' (by simp)).alloc _).alloc _
  have b2 : Blk W0 (w.heap.size + 2) 36 #[.slice none 0 0, .slice none 0 0, .slice none 0 0, .slice none 0 0, .slice none 0 0] := by rw [hW0]; exact (Blk.new' (by simp)).alloc _
  have b3 : Blk W0 (w.heap.size + 3) 41 #[.int .i64 0, .int .i64 0, .string ⟨#[]⟩] := by rw [hW0]; exact Blk.new' (by simp)
  have hb0 : Below w.heap.size w W0 := by
    rw [hW0]
    exact ((((Below.refl w.heap.size w).alloc (Nat.le_refl _) _).alloc (by simp) _).alloc (by simp; omega) _).alloc (by simp; omega) _
  have HW0 := Lib.hid hW0
  have HCK := Lib.hid (KCheck_any k a W0 ((HK0.out.below hb0).more (by omega)) HS0.out HC0.out (HT0.out.below hb0))
  have HB := Lib.hid (show W0.heap.size = w.heap.size + 4 ∧ Below w.heap.size w W0 from ⟨hn, hb0⟩)
  have B0 := Lib.hid b0
  have B1 := Lib.hid b1
  have B2 := Lib.hid b2
  have B3 := Lib.hid b3
  obtain ⟨c0, c1, c2, c3, c4⟩ : W0.cell? ⟨w.heap.size, 0, none⟩ = some (.slice a.a0 k.mods.length a.c0) ∧ W0.cell? ⟨w.heap.size, 1, none⟩ = some (.slice a.a1 k.mem.length a.c1) ∧ W0.cell? ⟨w.heap.size, 2, none⟩ = some (.slice a.a2 k.nodes.length a.c2) ∧ W0.cell? ⟨w.heap.size, 3, none⟩ = some (.slice a.a3 k.pipes.length a.c3) ∧ W0.cell? ⟨w.heap.size, 4, none⟩ = some (.slice a.a4 k.procs.length a.c4) := ⟨b0.cell 0, b0.cell 1, b0.cell 2, b0.cell 3, b0.cell 4⟩
  have cl := b0.lt
  clear hW0 hn b0 b1 b2 b3 hb0
  unfold KA.cells at HCK
  go_wp2_with fail
  refine HCK.out.mono ?_
  rintro e w1 ⟨rfl, hb1⟩
  clear HCK c0 c1 c2 c3 c4 cl
  have HB1 := Lib.hid hb1
  have D0 := Lib.hid (B0.out.below hb1 B0.out.lt)
  have D1 := Lib.hid (B1.out.below hb1 B1.out.lt)
  have D2 := Lib.hid (B2.out.below hb1 B2.out.lt)
  have D3 := Lib.hid (B3.out.below hb1 B3.out.lt)
  have HBW := Lib.hid (HB.out.2.trans (hb1.mono (by have := HB.out.1; omega)))
  clear hb1 B0 B1 B2 B3
  rw [hk]
  have HK1 := Lib.hid hk
  clear hk
  have q1 : decide (kd < 1) = false := decide_eq_false (by omega)
  have q2 : decide (11 < kd) = false := decide_eq_false (by omega)
  have HK5 := Lib.hid (show 5 ≤ kd ∧ kd ≤ 11 from ⟨h5, h11⟩)
  have t1 : (kd == 1) = false := by rw [beq_eq_false_iff_ne]; omega
  have t2 : (kd == 2) = false := by rw [beq_eq_false_iff_ne]; omega
  have t3 : (kd == 3) = false := by rw [beq_eq_false_iff_ne]; omega
  have t4 : (kd == 4) = false := by rw [beq_eq_false_iff_ne]; omega
  have HV : Hid (doE k ⟨kd, (p : Int), xn, xm, nm, dt⟩ = 0) := by show _ = _; unfold doE; rw [if_pos HK1.out, if_neg (by simp only; omega)]
  clear h5 h11
  have a0 := D1.out.cell 0
  have al := D1.out.lt
  simp at a0
  have HKO := Lib.hid ((kcheck_iff k).1 HK1.out)
  obtain ⟨c0, c1, c2, c3, c4⟩ : w1.cell? ⟨w.heap.size, 0, none⟩ = some (.slice a.a0 k.mods.length a.c0) ∧ w1.cell? ⟨w.heap.size, 1, none⟩ = some (.slice a.a1 k.mem.length a.c1) ∧ w1.cell? ⟨w.heap.size, 2, none⟩ = some (.slice a.a2 k.nodes.length a.c2) ∧ w1.cell? ⟨w.heap.size, 3, none⟩ = some (.slice a.a3 k.pipes.length a.c3) ∧ w1.cell? ⟨w.heap.size, 4, none⟩ = some (.slice a.a4 k.procs.length a.c4) := ⟨D0.out.cell 0, D0.out.cell 1, D0.out.cell 2, D0.out.cell 3, D0.out.cell 4⟩
  have cl := D0.out.lt
  have HCP := Lib.hid (Copy_own k a w1 ((HK0.out.below HBW.out).more HBW.out.size))
  unfold KA.cells at HCP
  go_wp2_with fail
  refine HCP.out.mono ?_
  rintro e w2 ⟨V0, V1, V2, V3, V4, ms, es, rfl, hCp, hb2⟩
  obtain ⟨A0, k0, rfl⟩ := own_slice hCp.mods
  obtain ⟨A1, k1, rfl⟩ := own_slice hCp.mem
  obtain ⟨A2, k2, rfl⟩ := own_slice hCp.nodes
  obtain ⟨A3, k3, rfl⟩ := own_slice hCp.pipes
  obtain ⟨A4, k4, rfl⟩ := own_slice hCp.procs
  have hD0 := DoAt.start (cs := #[.int .i64 kd, .int .i64 (p : Int), .int .i64 xn, .int .i64 xm, .string nm, .string dt]) (zk := #[.slice none 0 0, .slice none 0 0, .slice none 0 0, .slice none 0 0, .slice none 0 0]) rfl HW0.out (HB1.out.trans (hb2.mono HB1.out.size)) (hCp.base HB1.out.size) HK0.out.fits
  have D0' := Lib.hid (D0.out.below hb2 D0.out.lt)
  obtain ⟨c0', c1', c2', c3', c4'⟩ : w2.cell? ⟨w.heap.size, 0, none⟩ = some (.slice a.a0 k.mods.length a.c0) ∧ w2.cell? ⟨w.heap.size, 1, none⟩ = some (.slice a.a1 k.mem.length a.c1) ∧ w2.cell? ⟨w.heap.size, 2, none⟩ = some (.slice a.a2 k.nodes.length a.c2) ∧ w2.cell? ⟨w.heap.size, 3, none⟩ = some (.slice a.a3 k.pipes.length a.c3) ∧ w2.cell? ⟨w.heap.size, 4, none⟩ = some (.slice a.a4 k.procs.length a.c4) := ⟨D0'.out.cell 0, D0'.out.cell 1, D0'.out.cell 2, D0'.out.cell 3, D0'.out.cell 4⟩
  have f0 := D0'.out.frozen 0
  have f1 := D0'.out.frozen 1
  have f2 := D0'.out.frozen 2
  have f3 := D0'.out.frozen 3
  have f4 := D0'.out.frozen 4
  have cl' := D0'.out.lt
  clear hCp hb2 HCP c0 c1 c2 c3 c4 cl a0 al
  go_upto_region 9 with fail
  refine (show ∀ W : World, DoAt w W ⟨A0, k0, A1, k1, A2, k2, A3, k3, A4, k4⟩ k ms es #[.int .i64 kd, .int .i64 (p : Int), .int .i64 xn, .int .i64 xm, .string nm, .string dt] w2.heap.size (w2.heap.size + 1) 0 0 ⟨#[]⟩ → Code.wp _ _ _ _ W from ?_) _ hD0
  clear hD0 c0' c1' c2' c3' c4' f0 f1 f2 f3 f4 cl' D0' D0 D1 D2 D3 q1 q2
  intro W9 hD9
  have HD9 := Lib.hid hD9
  clear hD9
  obtain ⟨aa, haa⟩ : ∃ aa : KA, aa = ⟨A0, k0, A1, k1, A2, k2, A3, k3, A4, k4⟩ := ⟨_, rfl⟩
  rw [← haa] at HD9
  clear haa
  have HVD : Hid (doK k ⟨kd, (p : Int), xn, xm, nm, dt⟩ = if 0 ≤ (p : Int) ∧ (p : Int) < 4 ∧ (k.procs.getD ((p : Int)).toNat default).live = true then byK k ((p : Int)).toNat ⟨kd, (p : Int), xn, xm, nm, dt⟩ else (k, ansE 6)) := by
    show _ = _
    unfold doK
    simp only
    rw [if_neg (by have := HK5.out; omega), if_neg (by have := HK5.out; omega), if_neg (by have := HK5.out; omega), if_neg (by have := HK5.out; omega)]
  rw [Int.toNat_natCast] at HVD
  have p1 : decide ((p : Int) < 0) = false := decide_eq_false (by omega)
  have p2 : decide (4 ≤ (p : Int)) = false := decide_eq_false (by omega)
  have hp4i : (p : Int) < 4 := by omega
  have hpl : p < k.procs.length := by have := HKO.out.l4; omega
  have hel : 0 < k.procs[p].ends.length := by
    have := ends_len HKO.out hp4
    rw [getD_eq hpl] at this
    omega
  obtain ⟨b4, be, c, hp', ha4, _, bl, _, _, _, _, z0, z1⟩ := HD9.out.ks.prcAt hpl hel
  have d4 : W9.cell? ⟨w.heap.size, 4, none⟩ = some (.slice (some ⟨b4, 0, none⟩) 4 aa.c4) := by
    have := HD9.out.ks.c5.2.2.2.2
    rw [ha4, HKO.out.l4] at this
    exact this
  have gl := HD9.out.ks.blk.lt
  have HA4 := Lib.hid ha4
  rw [getD_eq hpl] at hlv
  rw [getD_eq hpl, hlv] at HVD
  rw [hlv] at z0
  clear hlv z1 ha4 hel
  rw [if_pos ⟨by omega, by omega, rfl⟩] at HVD
  have x0 := HD9.out.wk.cell 0
  have xl := HD9.out.wk.lt
  have a0 := HD9.out.ac.cell 0
  have a1 := HD9.out.ac.cell 1
  have al := HD9.out.ac.lt
  simp at x0 a0 a1
  go_upto_region 12 with fail
  clear x0 xl a0 a1 al z0 d4 gl bl
  refine (show ∀ W : World, DoAt w W aa k ms es _ w2.heap.size (w2.heap.size + 1) 0 0 ⟨#[]⟩ → Code.wp _ _ _ _ W from ?_) _ HD9.out
  clear HD9
  intro W10 hD10
  have HDD : Hid (DoAt w W10.drew aa k ms es #[.int .i64 kd, .int .i64 (p : Int), .int .i64 xn, .int .i64 xm, .string nm, .string dt] w2.heap.size (w2.heap.size + 1) 0 0 ⟨#[]⟩) := hD10.below (Below.drewN' (Below.refl _ W10) 1)
  clear hD10
  have HBY := Lib.hid (by_any HR'.out (⟨kd, (p : Int), xn, xm, nm, dt⟩ : Akt) W10.drew HDD.out.ks HKO.out (HT0.out.below HDD.out.fr) HTL.out hp4 HA4.out HN.out HDT.out HK5.out.1 HK5.out.2)
  obtain ⟨r, hr⟩ : ∃ r, r = byK k p ⟨kd, (p : Int), xn, xm, nm, dt⟩ := ⟨_, rfl⟩
  rw [← hr] at HBY HVD
  clear hr
  have d4 : W10.drew.cell? ⟨w.heap.size, 4, none⟩ = some (.slice (some ⟨b4, 0, none⟩) 4 aa.c4) := by
    have := HDD.out.ks.c5.2.2.2.2
    rw [HA4.out, HKO.out.l4] at this
    exact this
  refine doBy W10.drew w.heap.size w2.heap.size w.heap.size b4 aa.c4 (w.heap.size + 1) (w2.heap.size + 1) p ms r kd xn xm nm dt W10 _ rfl HDD.out.wk.lt (HDD.out.wk.cell 0) HDD.out.ks.blk.lt d4 HDD.out.ac.lt (HDD.out.ac.cell 0) (HDD.out.ac.cell 1) (HDD.out.ac.cell 2) (HDD.out.ac.cell 3) (HDD.out.ac.cell 4) (HDD.out.ac.cell 5) HDD.out.ot hp4 HBY.out ?_
  clear d4 HBY
  intro listed W y53 y54 y55 y56 y57 y58 y59 y60 hall hJ
  obtain ⟨W1, ⟨hF, a', es', hK'⟩, rfl⟩ := hJ.f8 (hall 8 (by decide))
  clear hJ hall
  have hD11 := HDD.out.next hK' hF
  obtain ⟨kk, kr⟩ := r
  obtain ⟨rc, rn, rd⟩ := kr
  have HD12 := Lib.hid (((hD11.set_ 0 (.int .i64 rc) (v0 := rc) (v1 := 0) (t := ⟨#[]⟩) rfl).set_ 1 (.int .i64 rn) (v0 := rc) (v1 := rn) (t := ⟨#[]⟩) rfl).set_ 2 (.string rd) (v0 := rc) (v1 := rn) (t := rd) rfl)
  clear hD11 hK' hF HDD
  go_upto_region 25 with fail
  refine (show ∀ W : World, DoAt w W a' kk ms es' _ w2.heap.size (w2.heap.size + 1) rc rn rd → Code.wp _ _ _ _ W from ?_) _ (HD12.out)
  intro W25 hD
  clear HD12
  obtain ⟨d0, d1, d2, d3, d4⟩ := hD.ks.c5
  have gl := hD.ks.blk.lt
  obtain ⟨ck, hkb, hks⟩ := hD.rk
  obtain ⟨rl, ⟨_, r0⟩, ⟨_, r1⟩, ⟨_, r2⟩, ⟨_, r3⟩, ⟨_, r4⟩⟩ := blk5 hkb hks
  have rf0 := hkb.frozen 0
  have rf1 := hkb.frozen 1
  have rf2 := hkb.frozen 2
  have rf3 := hkb.frozen 3
  have rf4 := hkb.frozen 4
  have q0 := hD.ra.cell 0
  have q1 := hD.ra.cell 1
  have q2 := hD.ra.cell 2
  have qf0 := hD.ra.frozen 0
  have qf1 := hD.ra.frozen 1
  have qf2 := hD.ra.frozen 2
  have ql := hD.ra.lt
  simp at q0 q1 q2
  have o0 := hD.ot.cell 0
  have o1 := hD.ot.cell 1
  have o2 := hD.ot.cell 2
  have ol := hD.ot.lt
  simp at o0 o1 o2
  have hbo := hD.bo3
  have hne1 : w2.heap.size + 1 ≠ w.heap.size + 2 := by omega
  have hne2 : w2.heap.size + 1 ≠ w.heap.size + 3 := by omega
  have HD := Lib.hid hD
  clear hD hkb hks
  go_region
  all_goals
    go_wp2
    refine bodyPost_ret (v := .tuple #[.agg #[.slice a'.a0 kk.mods.length a'.c0, .slice a'.a1 kk.mem.length a'.c1, .slice a'.a2 kk.nodes.length a'.c2, .slice a'.a3 kk.pipes.length a'.c3, .slice a'.a4 kk.procs.length a'.c4], .agg #[.int .i64 (rc), .int .i64 (rn), .string (rd)], .int .i64 0]) (by simp [results, Tryd.results40, go_sem, r0, r1, r2, r3, r4, q0, q1, q2]) rfl ?_
    exact (HD.out.fin HV.out HVD.out rfl).drew
theorem Do_any (HR : RunC 156) (k : Krn) (a : KA) (x : Akt) (w : World) (hK : KrnAt w w.heap.size a k) (hS : k.small) (hC : a.caps k) (ht : Tab w) (hn : x.name.size ≤ maxLen) (hd : x.data.size ≤ maxLen) :
    Calls Tryd.prog 40 #[.agg (a.cells k), .agg x.cells] w (DoPost w k x) := by
  obtain ⟨kd, xp, xn, xm, nm, dt⟩ := x
  simp only at hn hd
  by_cases hk : kcheck k = 0
  · by_cases h1 : kd < 1
    · exact do_low HR k a xp xn xm nm dt w hK hS hC ht hn hd kd hk h1
    by_cases h11 : 11 < kd
    · exact do_high HR k a xp xn xm nm dt w hK hS hC ht hn hd kd hk h11
    by_cases k1 : kd = 1
    · subst k1
      exact do_1 HR k a xp xn xm nm dt w hK hS hC ht hn hd hk
    by_cases k2 : kd = 2
    · subst k2
      exact do_2 HR k a xp xn xm nm dt w hK hS hC ht hn hd hk
    by_cases k3 : kd = 3
    · subst k3
      exact do_3 HR k a xp xn xm nm dt w hK hS hC ht hn hd hk
    by_cases k4 : kd = 4
    · subst k4
      cases hem : empS nm with
      | true => exact do_4e HR k a xp xn xm nm dt w hK hS hC ht hn hd hk hem
      | false =>
        by_cases hf : findK k nm < 0
        · exact do_4n HR k a xp xn xm nm dt w hK hS hC ht hn hd hk hem hf
        · exact do_4 HR k a xp xn xm nm dt w hK hS hC ht hn hd hk hem hf
    by_cases p0 : xp < 0
    · exact do_plow HR k a xp xn xm nm dt w hK hS hC ht hn hd hk kd (by omega) (by omega) p0
    by_cases p4 : 4 ≤ xp
    · exact do_phigh HR k a xp xn xm nm dt w hK hS hC ht hn hd hk kd (by omega) (by omega) p4
    obtain ⟨p, rfl⟩ : ∃ p : Nat, xp = (p : Int) := ⟨xp.toNat, by omega⟩
    cases hlv : (k.procs.getD p default).live with
    | false => exact do_pdead HR k a xn xm nm dt w hK hS hC ht hn hd hk kd (by omega) (by omega) p (by omega) hlv
    | true => exact do_p HR k a xn xm nm dt w hK hS hC ht hn hd hk kd (by omega) (by omega) p (by omega) hlv
  · exact do_check HR k a xp xn xm nm dt w hK hS hC ht hn hd kd hk
end Go.Proofs.YtdjamdbamkhblacDoor
