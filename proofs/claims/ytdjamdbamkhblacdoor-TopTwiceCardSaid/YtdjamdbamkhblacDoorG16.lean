/- The walk of the kernel's by: open. No condition. By an AI agent (xby.py). The walk of the kernel's by: pipe. No condition. By an AI agent (xby.py). -/
import Derived.Test.YtdjamdbamkhblacDoorKBy0
import Derived.Test.YtdjamdbamkhblacDoorG07
namespace Go.Proofs.YtdjamdbamkhblacDoor
open Go.RowKit
set_option linter.unusedVariables false
set_option linter.unusedSimpArgs false
attribute [local go_sem] After.cell
section
variable {B g b4 p : Nat} {a : KA} {k : Krn} {ms : List (Value × Value)} {es : List Value}
set_option maxRecDepth 100000 in
set_option maxHeartbeats 4000000 in
theorem by_open (nm dt : ByteArray) (a1 a2 a3 : Int) (w : World) (h : KS B w g a k ms es) (hk : KOk k) (hp : p < 4) (ha4 : a.a4 = some ⟨b4, 0, none⟩) (hs : nm.size ≤ maxLen) :
  Calls Tryd.prog 81 #[.agg #[.pointer (some ⟨g, 0, none⟩)], .pointer (some ⟨b4, p * 2, none⟩), .agg #[.int .i64 5, .int .i64 a1, .int .i64 a2, .int .i64 a3, .string nm, .string dt]] w (ByPost B w g ms (openK k p nm)) := by
 obtain ⟨hpl, be, c, hp', hel, HUN, HKO, HES, HPL, HPLC, HLT, HA4⟩ := by_pre w h hk hp ha4
 have S0 := ByAt.start h #[.int .i64 5, .int .i64 a1, .int .i64 a2, .int .i64 a3, .string nm, .string dt]
 clear h hk ha4
 have HNM : Hid (∀ W : World, Calls Tryd.prog 47 #[.string nm] W fun e w' => e = .returned (.bool (nameOk nm)) ∧ Below W.heap.size W w') := fun W => Name_any nm W hs
 have HFIND : Hid (∀ W : World, KS B W g a k ms es → Calls Tryd.prog 79 #[.agg #[.pointer (some ⟨g, 0, none⟩)], .string nm] W fun e w' => e = .returned (.int .i64 (findK k nm)) ∧ Below W.heap.size W w') := fun W hW => find_any nm W hW HKO.out.l2
 clear hs
 go_enter Tryd.func81, Tryd.ntmps81
 go_upto_region 2 with fail
 refine (show ∀ W : World, ByAt B w W g a k ms es #[.int .i64 5, .int .i64 a1, .int .i64 a2, .int .i64 a3, .string nm, .string dt] → Code.wp _ _ _ _ W from ?_) _ S0
 clear S0
 intro W0 hS
 have HS := Lib.hid hS
 clear hS
 have x0 := HS.out.wk.cell 0
 have xl := HS.out.wk.lt
 have c0 := HS.out.ac.cell 0
 have c4 := HS.out.ac.cell 4
 have cl := HS.out.ac.lt
 simp at x0 c0 c4
 go_wp2_with fail
 refine (HFIND.out W0 HS.out.ks).mono ?_
 rintro e w1 ⟨rfl, hb⟩
 have HS1 := Lib.hid (HS.out.below hb)
 clear hb HS
 clear x0 xl c0 c4 cl
 clear HFIND
 go_wp2_with fail
 refine (HPLC.out w1 HS1.out.ks).mono ?_
 rintro e w2 ⟨rfl, hb⟩
 have HS2 := Lib.hid (HS1.out.below hb)
 clear hb HS1
 clear HPLC
 have c4 := HS2.out.ac.cell 4
 have cl := HS2.out.ac.lt
 simp at c4
 go_wp2_with fail
 refine (HNM.out w2).mono ?_
 rintro e w3 ⟨rfl, hb⟩
 have HS3 := Lib.hid (HS2.out.below hb)
 clear hb HS2
 clear c4 cl
 clear HNM
 have HV : Hid (openK k p nm = if nameOk nm then (if findK k nm < 0 then (k, ansE 6) else if freeE k.procs[p].ends < 0 then (k, ansE 8) else (setEnd k p (freeE k.procs[p].ends).toNat ⟨1, findK k nm, 0⟩, ansN (freeE k.procs[p].ends).toNat)) else (k, ansE 4)) := by
  show _ = _
  unfold openK
  rw [HUN.out]
 cases hnm : nameOk nm with
 | false =>
   rw [hnm] at HV
   clear hnm
   have ol := HS3.out.ot.lt
   have o0 := HS3.out.ot.cell 0
   have o1 := HS3.out.ot.cell 1
   have of0 := HS3.out.ot.frozen 0
   have of1 := HS3.out.ot.frozen 1
   simp at o0 o1
   go_upto_region 13 with fail
   refine (show ∀ W7 : World, ByEnd B w W7 g a k ms es 4 0 noS → Code.wp _ _ _ _ W7 from ?_) _ (HS3.out.code 4)
   intro W7 h7
   have o0 := h7.ot.cell 0
   have o1 := h7.ot.cell 1
   have o2 := h7.ot.cell 2
   have r0 := h7.rs.cell 0
   have r1 := h7.rs.cell 1
   have r2 := h7.rs.cell 2
   have f0 := h7.rs.frozen 0
   have f1 := h7.rs.frozen 1
   have f2 := h7.rs.frozen 2
   have ol := h7.ot.lt
   have rl := h7.rs.lt
   simp at o0 o1 o2 r0 r1 r2
   have H7 := Lib.hid h7
   clear h7
   go_wp2
   refine bodyPost_ret (v := .agg #[.int .i64 4, .int .i64 0, .string noS]) (by simp [results, Tryd.results81, go_sem, r0, r1, r2]) rfl ?_
   exact H7.out.fin _ HV.out
 | true =>
   rw [hnm, if_pos rfl] at HV
   clear hnm
   obtain ⟨fi, hfi⟩ : ∃ fi, fi = findK k nm := ⟨_, rfl⟩
   obtain ⟨fe, hfe⟩ : ∃ fe, fe = freeE k.procs[p].ends := ⟨_, rfl⟩
   have HFI := Lib.hid hfi
   have HFE := Lib.hid hfe
   rw [← hfi, ← hfe] at HV
   rw [← hfi, ← hfe]
   clear hfi hfe
   by_cases h6 : fi < 0
   ·rw [if_pos h6] at HV
    have ol := HS3.out.ot.lt
    have o0 := HS3.out.ot.cell 0
    have o1 := HS3.out.ot.cell 1
    have of0 := HS3.out.ot.frozen 0
    have of1 := HS3.out.ot.frozen 1
    simp at o0 o1
    go_upto_region 13 with fail
    refine (show ∀ W7 : World, ByEnd B w W7 g a k ms es 6 0 noS → Code.wp _ _ _ _ W7 from ?_) _ (HS3.out.code 6)
    intro W7 h7
    have o0 := h7.ot.cell 0
    have o1 := h7.ot.cell 1
    have o2 := h7.ot.cell 2
    have r0 := h7.rs.cell 0
    have r1 := h7.rs.cell 1
    have r2 := h7.rs.cell 2
    have f0 := h7.rs.frozen 0
    have f1 := h7.rs.frozen 1
    have f2 := h7.rs.frozen 2
    have ol := h7.ot.lt
    have rl := h7.rs.lt
    simp at o0 o1 o2 r0 r1 r2
    have H7 := Lib.hid h7
    clear h7
    go_wp2
    refine bodyPost_ret (v := .agg #[.int .i64 6, .int .i64 0, .string noS]) (by simp [results, Tryd.results81, go_sem, r0, r1, r2]) rfl ?_
    exact H7.out.fin _ HV.out
   ·rw [if_neg h6] at HV
    by_cases h8 : fe < 0
    ·rw [if_pos h8] at HV
     have ol := HS3.out.ot.lt
     have o0 := HS3.out.ot.cell 0
     have o1 := HS3.out.ot.cell 1
     have of0 := HS3.out.ot.frozen 0
     have of1 := HS3.out.ot.frozen 1
     simp at o0 o1
     go_upto_region 13 with fail
     refine (show ∀ W7 : World, ByEnd B w W7 g a k ms es 8 0 noS → Code.wp _ _ _ _ W7 from ?_) _ (HS3.out.code 8)
     intro W7 h7
     have o0 := h7.ot.cell 0
     have o1 := h7.ot.cell 1
     have o2 := h7.ot.cell 2
     have r0 := h7.rs.cell 0
     have r1 := h7.rs.cell 1
     have r2 := h7.rs.cell 2
     have f0 := h7.rs.frozen 0
     have f1 := h7.rs.frozen 1
     have f2 := h7.rs.frozen 2
     have ol := h7.ot.lt
     have rl := h7.rs.lt
     simp at o0 o1 o2 r0 r1 r2
     have H7 := Lib.hid h7
     clear h7
     go_wp2
     refine bodyPost_ret (v := .agg #[.int .i64 8, .int .i64 0, .string noS]) (by simp [results, Tryd.results81, go_sem, r0, r1, r2]) rfl ?_
     exact H7.out.fin _ HV.out
    ·rw [if_neg h8] at HV
     obtain ⟨i, hi, he, hi0⟩ := freeE_pos (l := k.procs[p].ends) (by rw [← HFE.out]; omega)
     have e1 : fe = (i : Int) := HFE.out.trans he
     subst e1
     rw [Int.toNat_natCast] at HV
     have hi6 : i < 6 := by omega
     have HI := Lib.hid hi
     clear h8 he hi0 hi
     obtain ⟨bl, z1⟩ := HPL.out _ HS3.out.ks
     obtain ⟨el, y0, y1, y2⟩ := HS3.out.ks.opnB hpl hp' HES.out HI.out
     have g0 := HS3.out.ks.rdF hpl hp' HES.out (i * 3)
     have g1 := HS3.out.ks.rdF hpl hp' HES.out (i * 3 + 1)
     have g2 := HS3.out.ks.rdF hpl hp' HES.out (i * 3 + 2)
     have HN := Lib.hid (HS3.out.ks.endAll hpl hp' HES.out HI.out (⟨1, fi, 0⟩ : Opn))
     go_upto_region 6 with fail
     refine (show ∀ W4 : World, ByAt B w W4 g a (setEnd k p i ⟨1, fi, 0⟩) ms es _ → Code.wp _ _ _ _ W4 from ?_) _ (HS3.out.next HN.out.1 HN.out.2)
     clear HN
     intro W4 hS4
     have HS4 := Lib.hid hS4
     clear hS4
     have ol := HS4.out.ot.lt
     have o0 := HS4.out.ot.cell 0
     have o1 := HS4.out.ot.cell 1
     have of0 := HS4.out.ot.frozen 0
     have of1 := HS4.out.ot.frozen 1
     simp at o0 o1
     go_upto_region 13 with fail
     refine (show ∀ W7 : World, ByEnd B w W7 g a (setEnd k p i ⟨1, fi, 0⟩) ms es 0 i noS → Code.wp _ _ _ _ W7 from ?_) _ (HS4.out.num i)
     intro W7 h7
     have o0 := h7.ot.cell 0
     have o1 := h7.ot.cell 1
     have o2 := h7.ot.cell 2
     have r0 := h7.rs.cell 0
     have r1 := h7.rs.cell 1
     have r2 := h7.rs.cell 2
     have f0 := h7.rs.frozen 0
     have f1 := h7.rs.frozen 1
     have f2 := h7.rs.frozen 2
     have ol := h7.ot.lt
     have rl := h7.rs.lt
     simp at o0 o1 o2 r0 r1 r2
     have H7 := Lib.hid h7
     clear h7
     go_wp2
     refine bodyPost_ret (v := .agg #[.int .i64 0, .int .i64 i, .string noS]) (by simp [results, Tryd.results81, go_sem, r0, r1, r2]) rfl ?_
     exact H7.out.fin _ HV.out
end
end Go.Proofs.YtdjamdbamkhblacDoor
namespace Go.Proofs.YtdjamdbamkhblacDoor
open Go.RowKit
set_option linter.unusedVariables false
set_option linter.unusedSimpArgs false
attribute [local go_sem] After.cell
section
variable {B g b4 p : Nat} {a : KA} {k : Krn} {ms : List (Value × Value)} {es : List Value}
set_option maxRecDepth 100000 in
set_option maxHeartbeats 4000000 in
theorem by_pipe (nm dt : ByteArray) (a1 a2 a3 : Int) (w : World) (h : KS B w g a k ms es) (hk : KOk k) (hp : p < 4) (ha4 : a.a4 = some ⟨b4, 0, none⟩) :
  Calls Tryd.prog 81 #[.agg #[.pointer (some ⟨g, 0, none⟩)], .pointer (some ⟨b4, p * 2, none⟩), .agg #[.int .i64 9, .int .i64 a1, .int .i64 a2, .int .i64 a3, .string nm, .string dt]] w (ByPost B w g ms (pipeK k p)) := by
 obtain ⟨hpl, be, c, hp', hel, HUN, HKO, HES, HPL, HPLC, HLT, HA4⟩ := by_pre w h hk hp ha4
 have S0 := ByAt.start h #[.int .i64 9, .int .i64 a1, .int .i64 a2, .int .i64 a3, .string nm, .string dt]
 clear h hk ha4
 have HHAS : Hid (∀ (W : World) (kd : Int) (j : Nat), KS B W g a k ms es → Calls Tryd.prog 50 #[.agg #[.slice a.a0 k.mods.length a.c0, .slice a.a1 k.mem.length a.c1, .slice a.a2 8 a.c2, .slice a.a3 6 a.c3, .slice a.a4 4 a.c4], .int .i64 kd, .int .i64 (j : Int)] W fun e w' => e = .returned (.bool (hasE k.procs kd (j : Int))) ∧ Below W.heap.size W w') := fun W kd j hW => by
  have := has_any (.slice a.a0 k.mods.length a.c0) (.slice a.a1 k.mem.length a.c1) (.slice a.a2 8 a.c2) (.slice a.a3 6 a.c3) a.a4 a.c4 k.procs kd (j : Int) W hW.krn.procs (by rw [HKO.out.l4]; unfold maxLen; omega)
  rw [HKO.out.l4] at this
  exact this
 go_enter Tryd.func81, Tryd.ntmps81
 go_upto_region 2 with fail
 refine (show ∀ W : World, ByAt B w W g a k ms es #[.int .i64 9, .int .i64 a1, .int .i64 a2, .int .i64 a3, .string nm, .string dt] → Code.wp _ _ _ _ W from ?_) _ S0
 clear S0
 intro W0 hS
 have HS := Lib.hid hS
 clear hS
 have c0 := HS.out.ac.cell 0
 have cl := HS.out.ac.lt
 simp at c0
 go_wp2_with fail
 refine (HPLC.out W0 HS.out.ks).mono ?_
 rintro e w1 ⟨rfl, hb⟩
 have HS1 := Lib.hid (HS.out.below hb)
 clear hb HS
 clear c0 cl
 clear HPLC HPL
 have x0 := HS1.out.wk.cell 0
 have xl := HS1.out.wk.lt
 simp at x0
 obtain ⟨d0, d1, d2, d3, d4⟩ := HS1.out.ks.c5
 have gl := HS1.out.ks.blk.lt
 rw [HKO.out.l3] at d3
 rw [HKO.out.l4] at d4
 rw [HKO.out.l2] at d2
 have HP0 : Hid (pipF k 0 = -1) := rfl
 go_wp2_with fail
 clear d0 d1 d2 d3 d4 gl x0 xl
 go_loopw [11, 62] (fun n i wr => Cnt 6 i fun j => n = .int .i64 (pipF k j) ∧ ByAt B w wr g a k ms es #[.int .i64 9, .int .i64 a1, .int .i64 a2, .int .i64 a3, .string nm, .string dt]) (fun _ i _ => 6 - (intOf i).toNat)
 case atStart => exact ⟨0, Nat.zero_le _, rfl, by rw [HP0.out], HS1.out⟩
 case round =>
  clear HS1
  obtain ⟨j, hj, rfl, rfl, hS⟩ := hrel
  have HS := Lib.hid hS
  clear hS
  by_cases hlt : j < 6
  ·obtain ⟨fn, hfn⟩ : ∃ fn, fn = pipF k j := ⟨_, rfl⟩
   have HST := Lib.hid (pipF_step (k := k) hlt)
   rw [← hfn] at HST
   rw [← hfn]
   have HNG : Hid (fn < 0 → fn = -1) := fun h => by rw [hfn]; exact pipF_neg (by rw [← hfn]; exact h)
   have hj6 : (j : Int) < 6 := by omega
   clear hfn
   have x0 := HS.out.wk.cell 0
   have xl := HS.out.wk.lt
   simp at x0
   obtain ⟨d0, d1, d2, d3, d4⟩ := HS.out.ks.c5
   have gl := HS.out.ks.blk.lt
   rw [HKO.out.l3] at d3
   rw [HKO.out.l4] at d4
   rw [HKO.out.l2] at d2
   by_cases h0 : 0 ≤ fn
   ·have HE : Hid (pipF k (j + 1) = fn) := by show _ = _; rw [HST.out, if_pos h0]
    have h0' : ¬ fn < 0 := by omega
    clear h0
    go_wp2
    go_roundw
    case rel => first | exact ⟨j + 1, by omega, by go_num, by rw [HE.out], HS.out⟩ | ((repeat apply Exists.intro); exact ⟨⟨j + 1, by omega, by go_num, by rw [HE.out], HS.out⟩, rfl⟩)
    case measure => simp [intOf]; omega
   ·have h0' : fn < 0 := by omega
    have hfm := HNG.out h0'
    subst hfm
    clear h0
    cases h2 : hasE k.procs 2 (j : Int) with
    | true =>
      have HE : Hid (pipF k (j + 1) = -1) := by show _ = _; rw [HST.out, if_neg (by omega), if_neg (by unfold pipP; rw [h2]; simp)]
      have HC := Lib.hid (HHAS.out wr 2 j HS.out.ks)
      rw [h2] at HC
      clear h2
      go_wp2_with fail
      refine HC.out.mono ?_
      rintro e w2 ⟨rfl, hb⟩
      have HS2 := Lib.hid (HS.out.below hb)
      clear hb HC
      go_wp2
      go_roundw
      case rel => first | exact ⟨j + 1, by omega, by go_num, by rw [HE.out], HS2.out⟩ | ((repeat apply Exists.intro); exact ⟨⟨j + 1, by omega, by go_num, by rw [HE.out], HS2.out⟩, rfl⟩)
      case measure => simp [intOf]; omega
    | false =>
      have HC := Lib.hid (HHAS.out wr 2 j HS.out.ks)
      rw [h2] at HC
      have HH2 := Lib.hid h2
      clear h2
      go_wp2_with fail
      refine HC.out.mono ?_
      rintro e w2 ⟨rfl, hb⟩
      have HS2 := Lib.hid (HS.out.below hb)
      clear hb HC x0 xl d0 d1 d2 d3 d4 gl
      have x0 := HS2.out.wk.cell 0
      have xl := HS2.out.wk.lt
      simp at x0
      obtain ⟨d0, d1, d2, d3, d4⟩ := HS2.out.ks.c5
      have gl := HS2.out.ks.blk.lt
      rw [HKO.out.l3] at d3
      rw [HKO.out.l4] at d4
      rw [HKO.out.l2] at d2
      have HC := Lib.hid (HHAS.out w2 3 j HS2.out.ks)
      cases h3 : hasE k.procs 3 (j : Int) with
      | true =>
        have HE : Hid (pipF k (j + 1) = -1) := by show _ = _; rw [HST.out, if_neg (by omega), if_neg (by unfold pipP; rw [h3]; simp)]
        rw [h3] at HC
        clear h3
        go_wp2_with fail
        refine HC.out.mono ?_
        rintro e w3 ⟨rfl, hb⟩
        have HS3 := Lib.hid (HS2.out.below hb)
        clear hb HC
        go_wp2
        go_roundw
        case rel => first | exact ⟨j + 1, by omega, by go_num, by rw [HE.out], HS3.out⟩ | ((repeat apply Exists.intro); exact ⟨⟨j + 1, by omega, by go_num, by rw [HE.out], HS3.out⟩, rfl⟩)
        case measure => simp [intOf]; omega
      | false =>
        have HE : Hid (pipF k (j + 1) = (j : Int)) := by show _ = _; rw [HST.out, if_neg (by omega), if_pos (by unfold pipP; rw [HH2.out, h3]; rfl)]
        rw [h3] at HC
        clear h3
        go_wp2_with fail
        refine HC.out.mono ?_
        rintro e w3 ⟨rfl, hb⟩
        have HS3 := Lib.hid (HS2.out.below hb)
        clear hb HC
        go_wp2
        go_roundw
        case rel => first | exact ⟨j + 1, by omega, by go_num, by rw [HE.out], HS3.out⟩ | ((repeat apply Exists.intro); exact ⟨⟨j + 1, by omega, by go_num, by rw [HE.out], HS3.out⟩, rfl⟩)
        case measure => simp [intOf]; omega
  ·obtain rfl : j = 6 := by omega
   rw [pipF_all k]
   clear hlt hj
   have HV : Hid (pipeK k p = if freeE k.procs[p].ends < 0 ∨ freePipe k < 0 then (k, ansE 8) else if freeE ((setEnd k p (freeE k.procs[p].ends).toNat ⟨2, freePipe k, 0⟩).procs.getD p default).ends < 0 then (k, ansE 8) else (setEnd (setEnd k p (freeE k.procs[p].ends).toNat ⟨2, freePipe k, 0⟩) p (freeE ((setEnd k p (freeE k.procs[p].ends).toNat ⟨2, freePipe k, 0⟩).procs.getD p default).ends).toNat ⟨3, freePipe k, 0⟩, ansN (freeE k.procs[p].ends).toNat)) := by
    show _ = _
    unfold pipeK
    rw [HUN.out]
   obtain ⟨fe, hfe⟩ : ∃ fe, fe = freeE k.procs[p].ends := ⟨_, rfl⟩
   obtain ⟨fp, hfp⟩ : ∃ fp, fp = freePipe k := ⟨_, rfl⟩
   have HFE := Lib.hid hfe
   rw [← hfe, ← hfp] at HV
   rw [← hfe, ← hfp]
   clear hfe hfp HP0 HHAS
   by_cases h8 : fe < 0 ∨ fp < 0
   ·rw [if_pos h8] at HV
    by_cases h9 : fe < 0
    ·clear h8
     have ol := HS.out.ot.lt
     have o0 := HS.out.ot.cell 0
     have o1 := HS.out.ot.cell 1
     have of0 := HS.out.ot.frozen 0
     have of1 := HS.out.ot.frozen 1
     simp at o0 o1
     go_upto_region 25 with fail
     refine (show ∀ W7 : World, ByEnd B w W7 g a k ms es 8 0 noS → Code.wp _ _ _ _ W7 from ?_) _ (HS.out.code 8)
     intro W7 h7
     have o0 := h7.ot.cell 0
     have o1 := h7.ot.cell 1
     have o2 := h7.ot.cell 2
     have r0 := h7.rs.cell 0
     have r1 := h7.rs.cell 1
     have r2 := h7.rs.cell 2
     have f0 := h7.rs.frozen 0
     have f1 := h7.rs.frozen 1
     have f2 := h7.rs.frozen 2
     have ol := h7.ot.lt
     have rl := h7.rs.lt
     simp at o0 o1 o2 r0 r1 r2
     have H7 := Lib.hid h7
     clear h7
     go_wp2
     refine bodyPost_ret (v := .agg #[.int .i64 8, .int .i64 0, .string noS]) (by simp [results, Tryd.results81, go_sem, r0, r1, r2]) rfl ?_
     exact H7.out.fin _ HV.out
    ·have h10 : fp < 0 := by omega
     clear h8
     have ol := HS.out.ot.lt
     have o0 := HS.out.ot.cell 0
     have o1 := HS.out.ot.cell 1
     have of0 := HS.out.ot.frozen 0
     have of1 := HS.out.ot.frozen 1
     simp at o0 o1
     go_upto_region 25 with fail
     refine (show ∀ W7 : World, ByEnd B w W7 g a k ms es 8 0 noS → Code.wp _ _ _ _ W7 from ?_) _ (HS.out.code 8)
     intro W7 h7
     have o0 := h7.ot.cell 0
     have o1 := h7.ot.cell 1
     have o2 := h7.ot.cell 2
     have r0 := h7.rs.cell 0
     have r1 := h7.rs.cell 1
     have r2 := h7.rs.cell 2
     have f0 := h7.rs.frozen 0
     have f1 := h7.rs.frozen 1
     have f2 := h7.rs.frozen 2
     have ol := h7.ot.lt
     have rl := h7.rs.lt
     simp at o0 o1 o2 r0 r1 r2
     have H7 := Lib.hid h7
     clear h7
     go_wp2
     refine bodyPost_ret (v := .agg #[.int .i64 8, .int .i64 0, .string noS]) (by simp [results, Tryd.results81, go_sem, r0, r1, r2]) rfl ?_
     exact H7.out.fin _ HV.out
   ·rw [if_neg h8] at HV
    have h9 : ¬ fe < 0 := by omega
    have h10 : ¬ fp < 0 := by omega
    clear h8
    obtain ⟨i, hi, he, hi0⟩ := freeE_pos (l := k.procs[p].ends) (by rw [← HFE.out]; omega)
    have e1 : fe = (i : Int) := HFE.out.trans he
    subst e1
    rw [Int.toNat_natCast] at HV
    have hi6 : i < 6 := by omega
    have HI := Lib.hid hi
    have HDF := Lib.hid (free_end HKO.out hp hpl hi hi0)
    clear h9 he hi0
    obtain ⟨bl, z1, _⟩ := HS.out.ks.place_ hpl hp' HA4.out HES.out hel
    obtain ⟨el, y0, y1, y2⟩ := HS.out.ks.opnB hpl hp' HES.out HI.out
    have g0 := HS.out.ks.rdF hpl hp' HES.out (i * 3)
    have g1 := HS.out.ks.rdF hpl hp' HES.out (i * 3 + 1)
    have g2 := HS.out.ks.rdF hpl hp' HES.out (i * 3 + 2)
    have HN := Lib.hid (HS.out.ks.endAll hpl hp' HES.out HI.out (⟨2, fp, 0⟩ : Opn))
    obtain ⟨hp1, hi1, G1, L1⟩ := setEnd_get hpl HI.out (⟨2, fp, 0⟩ : Opn)
    have HI1 := Lib.hid hi1
    have HP1 := Lib.hid hp1
    have HL1 := Lib.hid (L1.trans hel)
    have HE1 : Hid (es[p] = .slice (some ⟨be, 0, none⟩) (setEnd k p i ⟨2, fp, 0⟩).procs[p].ends.length c) := HES.out.trans (congrArg (fun n => Value.slice (some ⟨be, 0, none⟩) n c) L1.symm)
    have HU1 : Hid ((setEnd k p i ⟨2, fp, 0⟩).procs.getD p default = (setEnd k p i ⟨2, fp, 0⟩).procs[p]) := getD_eq hp1
    have HBK := Lib.hid (setEnd_back hpl HI.out (⟨2, fp, 0⟩ : Opn) HDF.out)
    clear G1 L1
    go_upto_region 27 with fail
    refine (show ∀ W4 : World, ByAt B w W4 g a (setEnd k p i ⟨2, fp, 0⟩) ms es _ → Code.wp _ _ _ _ W4 from ?_) _ (HS.out.next HN.out.1 HN.out.2)
    clear HN HS bl z1 el y0 y1 y2 g0 g1 g2
    intro W4 hS4
    obtain ⟨bl, z1, hcall⟩ := hS4.ks.place_ HP1.out hp' HA4.out HE1.out HL1.out
    have HS4 := Lib.hid hS4
    rw [HU1.out] at HV
    obtain ⟨fe2, hfe2⟩ : ∃ fe2, fe2 = freeE (setEnd k p i ⟨2, fp, 0⟩).procs[p].ends := ⟨_, rfl⟩
    have HFE2 := Lib.hid hfe2
    rw [← hfe2] at HV
    have HC : Hid (Calls Tryd.prog 118 #[.pointer (some ⟨b4, p * 2, none⟩)] W4 fun e w' => e = .returned (.int .i64 fe2) ∧ Below W4.heap.size W4 w') := by
     refine hcall.mono ?_
     rintro e w' ⟨h1, h2⟩
     exact ⟨h1.trans (congrArg (fun z => Ending.returned (.int .i64 z)) hfe2.symm), h2⟩
    clear hS4 hcall hfe2 bl z1
    go_wp2_with fail
    refine HC.out.mono ?_
    rintro e w5 ⟨rfl, hb⟩
    have HS5 := Lib.hid (HS4.out.below hb)
    clear hb HC HS4
    obtain ⟨bl, z1, _⟩ := HS5.out.ks.place_ HP1.out hp' HA4.out HE1.out HL1.out
    by_cases h8 : fe2 < 0
    ·rw [if_pos h8] at HV
     obtain ⟨el, y0, y1, y2⟩ := HS5.out.ks.opnB HP1.out hp' HE1.out HI1.out
     have g0 := HS5.out.ks.rdF HP1.out hp' HE1.out (i * 3)
     have g1 := HS5.out.ks.rdF HP1.out hp' HE1.out (i * 3 + 1)
     have g2 := HS5.out.ks.rdF HP1.out hp' HE1.out (i * 3 + 2)
     have HN := Lib.hid (HS5.out.ks.endAll HP1.out hp' HE1.out HI1.out (default : Opn))
     rw [HBK.out] at HN
     go_upto_region 30 with fail
     refine (show ∀ W6 : World, ByAt B w W6 g a k ms es _ → Code.wp _ _ _ _ W6 from ?_) _ (HS5.out.next HN.out.1 HN.out.2)
     clear HN HS5 bl z1 el y0 y1 y2 g0 g1 g2
     intro W6 hS6
     have HS6 := Lib.hid hS6
     clear hS6
     have ol := HS6.out.ot.lt
     have o0 := HS6.out.ot.cell 0
     have o1 := HS6.out.ot.cell 1
     have of0 := HS6.out.ot.frozen 0
     have of1 := HS6.out.ot.frozen 1
     simp at o0 o1
     go_upto_region 31 with fail
     refine (show ∀ W7 : World, ByEnd B w W7 g a k ms es 8 0 noS → Code.wp _ _ _ _ W7 from ?_) _ (HS6.out.code 8)
     intro W7 h7
     have o0 := h7.ot.cell 0
     have o1 := h7.ot.cell 1
     have o2 := h7.ot.cell 2
     have r0 := h7.rs.cell 0
     have r1 := h7.rs.cell 1
     have r2 := h7.rs.cell 2
     have f0 := h7.rs.frozen 0
     have f1 := h7.rs.frozen 1
     have f2 := h7.rs.frozen 2
     have ol := h7.ot.lt
     have rl := h7.rs.lt
     simp at o0 o1 o2 r0 r1 r2
     have H7 := Lib.hid h7
     clear h7
     go_wp2
     refine bodyPost_ret (v := .agg #[.int .i64 8, .int .i64 0, .string noS]) (by simp [results, Tryd.results81, go_sem, r0, r1, r2]) rfl ?_
     exact H7.out.fin _ HV.out
    ·rw [if_neg h8] at HV
     obtain ⟨q, hq, he, hq0⟩ := freeE_pos (l := (setEnd k p i ⟨2, fp, 0⟩).procs[p].ends) (by rw [← HFE2.out]; omega)
     have e1 : fe2 = (q : Int) := HFE2.out.trans he
     subst e1
     rw [Int.toNat_natCast] at HV
     have hq6 : q < 6 := by have := HL1.out; omega
     have HQ := Lib.hid hq
     clear h8 he hq0 hq
     obtain ⟨el, y0, y1, y2⟩ := HS5.out.ks.opnB HP1.out hp' HE1.out HQ.out
     have g0 := HS5.out.ks.rdF HP1.out hp' HE1.out (q * 3)
     have g1 := HS5.out.ks.rdF HP1.out hp' HE1.out (q * 3 + 1)
     have g2 := HS5.out.ks.rdF HP1.out hp' HE1.out (q * 3 + 2)
     have HN := Lib.hid (HS5.out.ks.endAll HP1.out hp' HE1.out HQ.out (⟨3, fp, 0⟩ : Opn))
     go_upto_region 33 with fail
     refine (show ∀ W6 : World, ByAt B w W6 g a (setEnd (setEnd k p i ⟨2, fp, 0⟩) p q ⟨3, fp, 0⟩) ms es _ → Code.wp _ _ _ _ W6 from ?_) _ (HS5.out.next HN.out.1 HN.out.2)
     clear HN HS5 bl z1 el y0 y1 y2 g0 g1 g2
     intro W6 hS6
     have HS6 := Lib.hid hS6
     clear hS6
     have ol := HS6.out.ot.lt
     have o0 := HS6.out.ot.cell 0
     have o1 := HS6.out.ot.cell 1
     have of0 := HS6.out.ot.frozen 0
     have of1 := HS6.out.ot.frozen 1
     simp at o0 o1
     go_upto_region 34 with fail
     refine (show ∀ W7 : World, ByEnd B w W7 g a (setEnd (setEnd k p i ⟨2, fp, 0⟩) p q ⟨3, fp, 0⟩) ms es 0 i noS → Code.wp _ _ _ _ W7 from ?_) _ (HS6.out.num i)
     intro W7 h7
     have o0 := h7.ot.cell 0
     have o1 := h7.ot.cell 1
     have o2 := h7.ot.cell 2
     have r0 := h7.rs.cell 0
     have r1 := h7.rs.cell 1
     have r2 := h7.rs.cell 2
     have f0 := h7.rs.frozen 0
     have f1 := h7.rs.frozen 1
     have f2 := h7.rs.frozen 2
     have ol := h7.ot.lt
     have rl := h7.rs.lt
     simp at o0 o1 o2 r0 r1 r2
     have H7 := Lib.hid h7
     clear h7
     go_wp2
     refine bodyPost_ret (v := .agg #[.int .i64 0, .int .i64 i, .string noS]) (by simp [results, Tryd.results81, go_sem, r0, r1, r2]) rfl ?_
     exact H7.out.fin _ HV.out
end
end Go.Proofs.YtdjamdbamkhblacDoor
