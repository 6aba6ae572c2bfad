/- The walk of the kernel's by: read, write; and all. Condition: the listed table, the run's contract (RunC). By an AI agent (xby.py). -/
import Derived.Test.YtdjamdbamkhblacDoorKByN
import Derived.Test.YtdjamdbamkhblacDoorG16
import Derived.Test.YtdjamdbamkhblacDoorG19
import Derived.Test.YtdjamdbamkhblacDoorG24
namespace Go.Proofs.YtdjamdbamkhblacDoor
open Go.RowKit
set_option linter.unusedVariables false
set_option linter.unusedSimpArgs false
attribute [local go_sem] After.cell
theorem Tab.fr {B : Nat} {w w' : World} (h : Tab w) (hf : Fr B w w') (hB : 1 < B) : Tab w' :=
 ⟨Nat.lt_of_lt_of_le h.1 hf.low'.size, fun q hq => (hf.low'.cell (p := ⟨_, q, none⟩) hB).trans (h.2 q hq)⟩
theorem cutS_szB {s : ByteArray} {a b : Nat} (h : b ≤ s.size) : (cutS s a b).size = b - a := by
 unfold cutS
 have e : s.data.toList.length = s.size := by simp
 show ((s.data.toList.take b).drop a).toArray.size = _
 rw [List.size_toArray, List.length_drop, List.length_take, e]
 omega
theorem readK_n (k : Krn) (p i : Nat) (many : Int) : (readK k p i many).2.n = ((readK k p i many).2.data.size : Int) := by
 unfold readK
 simp only
 split
 ·rfl
 ·split
  ·split
   ·rfl
   ·simp only
    rw [cutS_szB (by omega)]
    omega
  ·split
   ·split
    ·rfl
    ·rfl
   ·split
    ·rfl
    ·simp only
     rw [cutS_szB (by omega)]
     omega
theorem writeK_d (k : Krn) (p i : Nat) (s : ByteArray) : (writeK k p i s).2.data = noS := by
 unfold writeK
 simp only
 split
 ·rfl
 ·split
  ·split
   ·rfl
   ·split
    ·rfl
    ·rfl
  ·split
   ·split
    ·rfl
    ·rfl
   ·split
    ·rfl
    ·rfl
section
variable {B g b4 p : Nat} {a : KA} {k : Krn} {ms : List (Value × Value)} {es : List Value}
set_option maxRecDepth 100000 in
set_option maxHeartbeats 4000000 in
theorem by_read (nm dt : ByteArray) (a1 a2 a3 : Int) (w : World) (h : KS B w g a k ms es) (hk : KOk k) (hp : p < 4) (ha4 : a.a4 = some ⟨b4, 0, none⟩) (i : Nat) (hi : i < 6) (ha : a2 = (i : Int)) (hn : ((k.procs.getD p default).ends.getD i default).kind ≠ 0) (HR : RunC 156) (ht : Tab w) (hgB : 1 < B) (hk3 : ((k.procs.getD p default).ends.getD i default).kind ≠ 3) :
  Calls Tryd.prog 81 #[.agg #[.pointer (some ⟨g, 0, none⟩)], .pointer (some ⟨b4, p * 2, none⟩), .agg #[.int .i64 7, .int .i64 a1, .int .i64 a2, .int .i64 a3, .string nm, .string dt]] w (ByPost B w g ms (readK k p i a3)) := by
 obtain ⟨hpl, be, c, hp', hel, HUN, HKO, HES, HPL, HPLC, HLT, HA4⟩ := by_pre w h hk hp ha4
 have S0 := ByAt.start h #[.int .i64 7, .int .i64 a1, .int .i64 a2, .int .i64 a3, .string nm, .string dt]
 clear h hk ha4
 subst ha
 have q1 : decide ((i : Int) < 0) = false := decide_eq_false (by omega)
 have q2 : decide (6 ≤ (i : Int)) = false := decide_eq_false (by omega)
 have hi6 : (i : Int) < 6 := by omega
 have HI : Hid (i < k.procs[p].ends.length) := by show _ < _; omega
 have HEQ : Hid ((k.procs.getD p default).ends.getD i default = k.procs[p].ends[i]'HI.out) := by show _ = _; rw [HUN.out, getD_eq HI.out]
 obtain ⟨x, hx⟩ : ∃ x, x = (k.procs.getD p default).ends.getD i default := ⟨_, rfl⟩
 have HXE : Hid (k.procs[p].ends[i]'HI.out = x) := by show _ = _; rw [hx, HEQ.out]
 rw [← hx] at hn
 rw [← hx] at hk3
 have q4 : (x.kind == 3) = false := by rw [beq_eq_false_iff_ne]; exact hk3
 have HN3 : Hid ((k.procs[p].ends[i]'HI.out).kind ≠ 3) := by show _ ≠ _; rw [HXE.out]; exact hk3
 have HN0 : Hid ((k.procs[p].ends[i]'HI.out).kind ≠ 0) := by show _ ≠ _; rw [HXE.out]; exact hn
 have HTB := Lib.hid ht
 clear hk3 ht
 have q3 : (x.kind == 0) = false := by rw [beq_eq_false_iff_ne]; exact hn
 clear hx hn
 go_enter Tryd.func81, Tryd.ntmps81
 go_upto_region 2 with fail
 refine (show ∀ W : World, ByAt B w W g a k ms es #[.int .i64 7, .int .i64 a1, .int .i64 (i : Int), .int .i64 a3, .string nm, .string dt] → Code.wp _ _ _ _ W from ?_) _ S0
 clear S0
 intro W0 hS
 have HS := Lib.hid hS
 clear hS
 have c0 := HS.out.ac.cell 0
 have c2 := HS.out.ac.cell 2
 have cl := HS.out.ac.lt
 simp at c0 c2
 obtain ⟨bl, z1, _⟩ := HS.out.ks.place_ hpl hp' HA4.out HES.out hel
 obtain ⟨el, y0, y1, y2⟩ := HS.out.ks.opnB hpl hp' HES.out HI.out
 rw [HXE.out] at y0 y1 y2
 go_wp2_with fail
 go_quiet (fail)
 have HS1 := Lib.hid (HS.out.below (Below.drewN' (Below.refl _ _) nq))
 clear HS
 clear c0 c2 cl bl z1 el y0 y1 y2
 go_upto_region 50 with fail
 refine (show ∀ W1 : World, ByAt B w W1 g a k ms es _ → Code.wp _ _ _ _ W1 from ?_) _ (HS1.out)
 clear HS1
 intro W1 hHS1
 have HS1 := Lib.hid hHS1
 clear hHS1
 have c0 := HS1.out.ac.cell 0
 have c2 := HS1.out.ac.cell 2
 have cl := HS1.out.ac.lt
 simp at c0 c2
 obtain ⟨bl, z1, _⟩ := HS1.out.ks.place_ hpl hp' HA4.out HES.out hel
 obtain ⟨el, y0, y1, y2⟩ := HS1.out.ks.opnB hpl hp' HES.out HI.out
 rw [HXE.out] at y0 y1 y2
 go_wp2_with fail
 go_quiet (fail)
 have HS2 := Lib.hid (HS1.out.below (Below.drewN' (Below.refl _ _) nq))
 clear HS1
 clear c0 c2 cl bl z1 el y0 y1 y2
 go_upto_region 52 with fail
 refine (show ∀ W2 : World, ByAt B w W2 g a k ms es _ → Code.wp _ _ _ _ W2 from ?_) _ (HS2.out)
 clear HS2
 intro W2 hHS2
 have HS2 := Lib.hid hHS2
 clear hHS2
 have x0 := HS2.out.wk.cell 0
 have xl := HS2.out.wk.lt
 have c0 := HS2.out.ac.cell 0
 have c3 := HS2.out.ac.cell 3
 have cl := HS2.out.ac.lt
 simp at x0 c0 c3
 obtain ⟨bl, z1, _⟩ := HS2.out.ks.place_ hpl hp' HA4.out HES.out hel
 obtain ⟨el, y0, y1, y2⟩ := HS2.out.ks.opnB hpl hp' HES.out HI.out
 rw [HXE.out] at y0 y1 y2
 have HC := Lib.hid (read_any HR a3 W2 HS2.out.ks HKO.out (HTB.out.fr HS2.out.fr hgB) hpl hp' HES.out HI.out HN0.out HN3.out)
 have HNE := Lib.hid (readK_n k p i a3)
 obtain ⟨r, hr⟩ : ∃ r, r = readK k p i a3 := ⟨_, rfl⟩
 rw [← hr] at HC HNE
 have HRE := Lib.hid hr
 clear hr
 go_wp2_with fail
 refine HC.out.mono ?_
 rintro e w4 ⟨rfl, hF, a', hK⟩
 have HS4 := Lib.hid (HS2.out.next hK hF)
 clear HC hK hF HS2 x0 xl c0 c3 cl bl z1 el y0 y1 y2
 have ol := HS4.out.ot.lt
 have o0 := HS4.out.ot.cell 0
 have o1 := HS4.out.ot.cell 1
 have of0 := HS4.out.ot.frozen 0
 have of1 := HS4.out.ot.frozen 1
 simp at o0 o1
 have o2 := HS4.out.ot.cell 2
 have of2 := HS4.out.ot.frozen 2
 simp at o2
 obtain ⟨r1, r2⟩ := r
 obtain ⟨rc, rn, rd⟩ := r2
 simp only at HNE
 go_upto_region 60 with fail
 refine (show ∀ W6 : World, ByEnd B w W6 g a' r1 ms es rc 0 rd → Code.wp _ _ _ _ W6 from ?_) _ ((HS4.out.nothing.set_ 2 (.string rd) (v0 := 0) (v1 := 0) (t := rd) rfl).set_ 0 (.int .i64 rc) (v0 := rc) (v1 := 0) (t := rd) rfl)
 clear HS4 ol o0 o1 of0 of1 o2 of2
 intro W6 h6
 have o0 := h6.ot.cell 0
 have o1 := h6.ot.cell 1
 have o2 := h6.ot.cell 2
 have of1 := h6.ot.frozen 1
 have ol := h6.ot.lt
 simp at o0 o1 o2
 have H6 := Lib.hid h6
 clear h6
 go_upto_region 61 with fail
 refine (show ∀ W7 : World, ByEnd B w W7 g a' r1 ms es rc (rd.size : Int) rd → Code.wp _ _ _ _ W7 from ?_) _ (H6.out.set_ 1 (.int .i64 (rd.size : Int)) (v0 := rc) (v1 := (rd.size : Int)) (t := rd) rfl)
 intro W7 h7
 have o0 := h7.ot.cell 0
 have o1 := h7.ot.cell 1
 have o2 := h7.ot.cell 2
 have r0 := h7.rs.cell 0
 have r1 := h7.rs.cell 1
 have r2 := h7.rs.cell 2
 have f0 := h7.rs.frozen 0
 have f1 := h7.rs.frozen 1
 have f2 := h7.rs.frozen 2
 have ol := h7.ot.lt
 have rl := h7.rs.lt
 simp at o0 o1 o2 r0 r1 r2
 have H7 := Lib.hid h7
 clear h7
 go_wp2
 refine bodyPost_ret (v := .agg #[.int .i64 rc, .int .i64 (rd.size : Int), .string rd]) (by simp [results, Tryd.results81, go_sem, r0, r1, r2]) rfl ?_
 exact H7.out.fin _ (HRE.out.symm.trans (by rw [HNE.out]))
set_option maxRecDepth 100000 in
set_option maxHeartbeats 4000000 in
theorem by_write (nm dt : ByteArray) (a1 a2 a3 : Int) (w : World) (h : KS B w g a k ms es) (hk : KOk k) (hp : p < 4) (ha4 : a.a4 = some ⟨b4, 0, none⟩) (i : Nat) (hi : i < 6) (ha : a2 = (i : Int)) (hn : ((k.procs.getD p default).ends.getD i default).kind ≠ 0) (HR : RunC 156) (ht : Tab w) (hgB : 1 < B) (hsz : dt.size ≤ maxLen) (hk3 : ((k.procs.getD p default).ends.getD i default).kind ≠ 2) :
  Calls Tryd.prog 81 #[.agg #[.pointer (some ⟨g, 0, none⟩)], .pointer (some ⟨b4, p * 2, none⟩), .agg #[.int .i64 8, .int .i64 a1, .int .i64 a2, .int .i64 a3, .string nm, .string dt]] w (ByPost B w g ms (writeK k p i dt)) := by
 obtain ⟨hpl, be, c, hp', hel, HUN, HKO, HES, HPL, HPLC, HLT, HA4⟩ := by_pre w h hk hp ha4
 have S0 := ByAt.start h #[.int .i64 8, .int .i64 a1, .int .i64 a2, .int .i64 a3, .string nm, .string dt]
 clear h hk ha4
 subst ha
 have q1 : decide ((i : Int) < 0) = false := decide_eq_false (by omega)
 have q2 : decide (6 ≤ (i : Int)) = false := decide_eq_false (by omega)
 have hi6 : (i : Int) < 6 := by omega
 have HI : Hid (i < k.procs[p].ends.length) := by show _ < _; omega
 have HEQ : Hid ((k.procs.getD p default).ends.getD i default = k.procs[p].ends[i]'HI.out) := by show _ = _; rw [HUN.out, getD_eq HI.out]
 obtain ⟨x, hx⟩ : ∃ x, x = (k.procs.getD p default).ends.getD i default := ⟨_, rfl⟩
 have HXE : Hid (k.procs[p].ends[i]'HI.out = x) := by show _ = _; rw [hx, HEQ.out]
 rw [← hx] at hn
 rw [← hx] at hk3
 have q4 : (x.kind == 2) = false := by rw [beq_eq_false_iff_ne]; exact hk3
 have HN3 : Hid ((k.procs[p].ends[i]'HI.out).kind ≠ 2) := by show _ ≠ _; rw [HXE.out]; exact hk3
 have HN0 : Hid ((k.procs[p].ends[i]'HI.out).kind ≠ 0) := by show _ ≠ _; rw [HXE.out]; exact hn
 have HTB := Lib.hid ht
 have HSZ := Lib.hid hsz
 clear hk3 ht hsz
 have q3 : (x.kind == 0) = false := by rw [beq_eq_false_iff_ne]; exact hn
 clear hx hn
 go_enter Tryd.func81, Tryd.ntmps81
 go_upto_region 2 with fail
 refine (show ∀ W : World, ByAt B w W g a k ms es #[.int .i64 8, .int .i64 a1, .int .i64 (i : Int), .int .i64 a3, .string nm, .string dt] → Code.wp _ _ _ _ W from ?_) _ S0
 clear S0
 intro W0 hS
 have HS := Lib.hid hS
 clear hS
 have c0 := HS.out.ac.cell 0
 have c2 := HS.out.ac.cell 2
 have cl := HS.out.ac.lt
 simp at c0 c2
 obtain ⟨bl, z1, _⟩ := HS.out.ks.place_ hpl hp' HA4.out HES.out hel
 obtain ⟨el, y0, y1, y2⟩ := HS.out.ks.opnB hpl hp' HES.out HI.out
 rw [HXE.out] at y0 y1 y2
 go_wp2_with fail
 go_quiet (fail)
 have HS1 := Lib.hid (HS.out.below (Below.drewN' (Below.refl _ _) nq))
 clear HS
 clear c0 c2 cl bl z1 el y0 y1 y2
 go_upto_region 50 with fail
 refine (show ∀ W1 : World, ByAt B w W1 g a k ms es _ → Code.wp _ _ _ _ W1 from ?_) _ (HS1.out)
 clear HS1
 intro W1 hHS1
 have HS1 := Lib.hid hHS1
 clear hHS1
 have c0 := HS1.out.ac.cell 0
 have c2 := HS1.out.ac.cell 2
 have cl := HS1.out.ac.lt
 simp at c0 c2
 obtain ⟨bl, z1, _⟩ := HS1.out.ks.place_ hpl hp' HA4.out HES.out hel
 obtain ⟨el, y0, y1, y2⟩ := HS1.out.ks.opnB hpl hp' HES.out HI.out
 rw [HXE.out] at y0 y1 y2
 go_wp2_with fail
 go_quiet (fail)
 have HS2 := Lib.hid (HS1.out.below (Below.drewN' (Below.refl _ _) nq))
 clear HS1
 clear c0 c2 cl bl z1 el y0 y1 y2
 go_upto_region 52 with fail
 refine (show ∀ W2 : World, ByAt B w W2 g a k ms es _ → Code.wp _ _ _ _ W2 from ?_) _ (HS2.out)
 clear HS2
 intro W2 hHS2
 have HS2 := Lib.hid hHS2
 clear hHS2
 have x0 := HS2.out.wk.cell 0
 have xl := HS2.out.wk.lt
 have c0 := HS2.out.ac.cell 0
 have c5 := HS2.out.ac.cell 5
 have cl := HS2.out.ac.lt
 simp at x0 c0 c5
 obtain ⟨bl, z1, _⟩ := HS2.out.ks.place_ hpl hp' HA4.out HES.out hel
 obtain ⟨el, y0, y1, y2⟩ := HS2.out.ks.opnB hpl hp' HES.out HI.out
 rw [HXE.out] at y0 y1 y2
 have HC := Lib.hid (write_any HR dt W2 HS2.out.ks HKO.out (HTB.out.fr HS2.out.fr hgB) hgB HSZ.out hpl hp' HES.out HI.out HN0.out HN3.out)
 obtain ⟨r, hr⟩ : ∃ r, r = writeK k p i dt := ⟨_, rfl⟩
 rw [← hr] at HC
 have HRE := Lib.hid hr
 have HRD := Lib.hid (show r.2.data = noS by rw [hr]; exact writeK_d k p i dt)
 clear hr
 go_wp2_with fail
 refine HC.out.mono ?_
 rintro e w4 ⟨rfl, hF, a', hK⟩
 have HS4 := Lib.hid (HS2.out.next hK hF)
 clear HC hK hF HS2 x0 xl c0 c5 cl bl z1 el y0 y1 y2
 have ol := HS4.out.ot.lt
 have o0 := HS4.out.ot.cell 0
 have o1 := HS4.out.ot.cell 1
 have of0 := HS4.out.ot.frozen 0
 have of1 := HS4.out.ot.frozen 1
 simp at o0 o1
 obtain ⟨r1, r2⟩ := r
 obtain ⟨rc, rn, rd⟩ := r2
 go_upto_region 61 with fail
 refine (show ∀ W7 : World, ByEnd B w W7 g a' r1 ms es rc rn noS → Code.wp _ _ _ _ W7 from ?_) _ (((HS4.out.nothing.set_ 1 (.int .i64 rn) (v0 := 0) (v1 := rn) (t := noS) rfl).set_ 0 (.int .i64 rc) (v0 := rc) (v1 := rn) (t := noS) rfl))
 intro W7 h7
 have o0 := h7.ot.cell 0
 have o1 := h7.ot.cell 1
 have o2 := h7.ot.cell 2
 have r0 := h7.rs.cell 0
 have r1 := h7.rs.cell 1
 have r2 := h7.rs.cell 2
 have f0 := h7.rs.frozen 0
 have f1 := h7.rs.frozen 1
 have f2 := h7.rs.frozen 2
 have ol := h7.ot.lt
 have rl := h7.rs.lt
 simp at o0 o1 o2 r0 r1 r2
 have H7 := Lib.hid h7
 clear h7
 go_wp2
 refine bodyPost_ret (v := .agg #[.int .i64 rc, .int .i64 rn, .string noS]) (by simp [results, Tryd.results81, go_sem, r0, r1, r2]) rfl ?_
 exact H7.out.fin _ (HRE.out.symm.trans (by rw [show rd = noS from HRD.out]))
theorem by_any (HR : RunC 156) (x : Akt) (w : World) (h : KS B w g a k ms es) (hk : KOk k) (ht : Tab w) (hgB : 1 < B) (hp : p < 4) (ha4 : a.a4 = some ⟨b4, 0, none⟩)
  (hn : x.name.size ≤ maxLen) (hd : x.data.size ≤ maxLen) (h5 : 5 ≤ x.kind) (h11 : x.kind ≤ 11) :
  Calls Tryd.prog 81 #[.agg #[.pointer (some ⟨g, 0, none⟩)], .pointer (some ⟨b4, p * 2, none⟩), .agg x.cells] w (ByPost B w g ms (byK k p x)) := by
 obtain ⟨kd, xp, xn, xm, nm, dt⟩ := x
 simp only at hn hd h5 h11
 show Calls _ _ #[_, _, .agg #[.int .i64 kd, .int .i64 xp, .int .i64 xn, .int .i64 xm, .string nm, .string dt]] _ _
 by_cases k5 : kd = 5
 ·subst k5
  exact by_open nm dt xp xn xm w h hk hp ha4 hn
 by_cases k9 : kd = 9
 ·subst k9
  exact by_pipe nm dt xp xn xm w h hk hp ha4
 by_cases k10 : kd = 10
 ·subst k10
  exact by_fork nm dt xp xn xm w h hk hp ha4
 by_cases k11 : kd = 11
 ·subst k11
  exact by_exit nm dt xp xn xm w h hk hp ha4
 have e5 : (kd == 5) = false := by rw [beq_eq_false_iff_ne]; exact k5
 have e9 : (kd == 9) = false := by rw [beq_eq_false_iff_ne]; exact k9
 have e10 : (kd == 10) = false := by rw [beq_eq_false_iff_ne]; exact k10
 have e11 : (kd == 11) = false := by rw [beq_eq_false_iff_ne]; exact k11
 have hb : byK k p ⟨kd, xp, xn, xm, nm, dt⟩ = if xn < 0 ∨ 6 ≤ xn ∨ ((k.procs.getD p default).ends.getD xn.toNat default).kind = 0 then (k, ansE 6) else if kd = 6 then (tidyK (setEnd k p xn.toNat default), ansN 0)
   else if (kd = 7 ∧ ((k.procs.getD p default).ends.getD xn.toNat default).kind = 3) ∨ (kd = 8 ∧ ((k.procs.getD p default).ends.getD xn.toNat default).kind = 2) then (k, ansE 3) else if kd = 7 then readK k p xn.toNat xm else writeK k p xn.toNat dt := by
  unfold byK
  simp only
  rw [if_neg k5, if_neg k9, if_neg k10, if_neg k11]
 rw [hb]
 by_cases hneg : xn < 0
 ·rw [if_pos (.inl hneg)]
  exact by_none_neg nm dt xp xn xm w h hk hp ha4 kd e5 e9 e10 e11 hneg
 by_cases hbig : 6 ≤ xn
 ·rw [if_pos (.inr (.inl hbig))]
  exact by_none_big nm dt xp xn xm w h hk hp ha4 kd e5 e9 e10 e11 hbig
 obtain ⟨i, hi⟩ : ∃ i : Nat, xn = (i : Int) := ⟨xn.toNat, by omega⟩
 have hi6 : i < 6 := by omega
 have hti : xn.toNat = i := by omega
 rw [hti]
 by_cases hfree : ((k.procs.getD p default).ends.getD i default).kind = 0
 ·rw [if_pos (.inr (.inr hfree))]
  exact by_none_free nm dt xp xn xm w h hk hp ha4 kd e5 e9 e10 e11 i hi6 hi hfree
 rw [if_neg (by rintro (q | q | q); exact hneg q; exact hbig q; exact hfree q)]
 by_cases k6 : kd = 6
 ·subst k6
  rw [if_pos rfl]
  exact by_close nm dt xp xn xm w h hk hp ha4 i hi6 hi hfree
 rw [if_neg k6]
 by_cases k7 : kd = 7
 ·subst k7
  by_cases h3 : ((k.procs.getD p default).ends.getD i default).kind = 3
  ·rw [if_pos (.inl ⟨rfl, h3⟩)]
   exact by_kind7 nm dt xp xn xm w h hk hp ha4 i hi6 hi hfree h3
  ·rw [if_neg (by rintro (⟨_, q⟩ | ⟨q, _⟩); exact h3 q; omega), if_pos rfl]
   exact by_read nm dt xp xn xm w h hk hp ha4 i hi6 hi hfree HR ht hgB h3
 ·have k8 : kd = 8 := by omega
  subst k8
  by_cases h2 : ((k.procs.getD p default).ends.getD i default).kind = 2
  ·rw [if_pos (.inr ⟨rfl, h2⟩)]
   exact by_kind8 nm dt xp xn xm w h hk hp ha4 i hi6 hi hfree h2
  ·rw [if_neg (by rintro (⟨q, _⟩ | ⟨_, q⟩); omega; exact h2 q), if_neg (by omega)]
   exact by_write nm dt xp xn xm w h hk hp ha4 i hi6 hi hfree HR ht hgB hd h2
end
end Go.Proofs.YtdjamdbamkhblacDoor
