/- The walk of the kernel's by: no such end; close; the wrong kind. No condition. By an AI agent (xby.py). -/
import Derived.Test.YtdjamdbamkhblacDoorKBy0
import Derived.Deep.QuietTactic
namespace Go.Proofs.YtdjamdbamkhblacDoor
open Go.RowKit
set_option linter.unusedVariables false
set_option linter.unusedSimpArgs false
attribute [local go_sem] After.cell
section
variable {B g b4 p : Nat} {a : KA} {k : Krn} {ms : List (Value × Value)} {es : List Value}
set_option maxRecDepth 100000 in
set_option maxHeartbeats 4000000 in
theorem by_none_neg (nm dt : ByteArray) (a1 a2 a3 : Int) (w : World) (h : KS B w g a k ms es) (hk : KOk k) (hp : p < 4) (ha4 : a.a4 = some ⟨b4, 0, none⟩) (kd : Int) (h5 : (kd == 5) = false) (h9 : (kd == 9) = false) (h10 : (kd == 10) = false) (h11 : (kd == 11) = false) (hn : a2 < 0) :
  Calls Tryd.prog 81 #[.agg #[.pointer (some ⟨g, 0, none⟩)], .pointer (some ⟨b4, p * 2, none⟩), .agg #[.int .i64 kd, .int .i64 a1, .int .i64 a2, .int .i64 a3, .string nm, .string dt]] w (ByPost B w g ms ((k, ansE 6))) := by
 obtain ⟨hpl, be, c, hp', hel, HUN, HKO, HES, HPL, HPLC, HLT, HA4⟩ := by_pre w h hk hp ha4
 have S0 := ByAt.start h #[.int .i64 kd, .int .i64 a1, .int .i64 a2, .int .i64 a3, .string nm, .string dt]
 clear h hk ha4
 have q1 : decide (a2 < 0) = true := by simpa using hn
 clear hn
 go_enter Tryd.func81, Tryd.ntmps81
 go_upto_region 2 with fail
 refine (show ∀ W : World, ByAt B w W g a k ms es #[.int .i64 kd, .int .i64 a1, .int .i64 a2, .int .i64 a3, .string nm, .string dt] → Code.wp _ _ _ _ W from ?_) _ S0
 clear S0
 intro W0 hS
 have HS := Lib.hid hS
 clear hS
 have c0 := HS.out.ac.cell 0
 have c2 := HS.out.ac.cell 2
 have cl := HS.out.ac.lt
 simp at c0 c2
 go_wp2_with fail
 go_quiet (fail)
 have HS1 := Lib.hid (HS.out.below (Below.drewN' (Below.refl _ _) nq))
 clear HS
 clear c0 c2 cl
 have ol := HS1.out.ot.lt
 have o0 := HS1.out.ot.cell 0
 have o1 := HS1.out.ot.cell 1
 have of0 := HS1.out.ot.frozen 0
 have of1 := HS1.out.ot.frozen 1
 simp at o0 o1
 go_upto_region 49 with fail
 refine (show ∀ W7 : World, ByEnd B w W7 g a k ms es 6 0 noS → Code.wp _ _ _ _ W7 from ?_) _ (HS1.out.code 6)
 intro W7 h7
 have o0 := h7.ot.cell 0
 have o1 := h7.ot.cell 1
 have o2 := h7.ot.cell 2
 have r0 := h7.rs.cell 0
 have r1 := h7.rs.cell 1
 have r2 := h7.rs.cell 2
 have f0 := h7.rs.frozen 0
 have f1 := h7.rs.frozen 1
 have f2 := h7.rs.frozen 2
 have ol := h7.ot.lt
 have rl := h7.rs.lt
 simp at o0 o1 o2 r0 r1 r2
 have H7 := Lib.hid h7
 clear h7
 go_wp2
 refine bodyPost_ret (v := .agg #[.int .i64 6, .int .i64 0, .string noS]) (by simp [results, Tryd.results81, go_sem, r0, r1, r2]) rfl ?_
 exact H7.out.fin _ rfl
set_option maxRecDepth 100000 in
set_option maxHeartbeats 4000000 in
theorem by_none_big (nm dt : ByteArray) (a1 a2 a3 : Int) (w : World) (h : KS B w g a k ms es) (hk : KOk k) (hp : p < 4) (ha4 : a.a4 = some ⟨b4, 0, none⟩) (kd : Int) (h5 : (kd == 5) = false) (h9 : (kd == 9) = false) (h10 : (kd == 10) = false) (h11 : (kd == 11) = false) (hn : 6 ≤ a2) :
  Calls Tryd.prog 81 #[.agg #[.pointer (some ⟨g, 0, none⟩)], .pointer (some ⟨b4, p * 2, none⟩), .agg #[.int .i64 kd, .int .i64 a1, .int .i64 a2, .int .i64 a3, .string nm, .string dt]] w (ByPost B w g ms ((k, ansE 6))) := by
 obtain ⟨hpl, be, c, hp', hel, HUN, HKO, HES, HPL, HPLC, HLT, HA4⟩ := by_pre w h hk hp ha4
 have S0 := ByAt.start h #[.int .i64 kd, .int .i64 a1, .int .i64 a2, .int .i64 a3, .string nm, .string dt]
 clear h hk ha4
 have q1 : decide (a2 < 0) = false := decide_eq_false (by omega)
 have q2 : decide (6 ≤ a2) = true := by simpa using hn
 clear hn
 go_enter Tryd.func81, Tryd.ntmps81
 go_upto_region 2 with fail
 refine (show ∀ W : World, ByAt B w W g a k ms es #[.int .i64 kd, .int .i64 a1, .int .i64 a2, .int .i64 a3, .string nm, .string dt] → Code.wp _ _ _ _ W from ?_) _ S0
 clear S0
 intro W0 hS
 have HS := Lib.hid hS
 clear hS
 have c0 := HS.out.ac.cell 0
 have c2 := HS.out.ac.cell 2
 have cl := HS.out.ac.lt
 simp at c0 c2
 go_wp2_with fail
 go_quiet (fail)
 have HS1 := Lib.hid (HS.out.below (Below.drewN' (Below.refl _ _) nq))
 clear HS
 clear c0 c2 cl
 have ol := HS1.out.ot.lt
 have o0 := HS1.out.ot.cell 0
 have o1 := HS1.out.ot.cell 1
 have of0 := HS1.out.ot.frozen 0
 have of1 := HS1.out.ot.frozen 1
 simp at o0 o1
 go_upto_region 49 with fail
 refine (show ∀ W7 : World, ByEnd B w W7 g a k ms es 6 0 noS → Code.wp _ _ _ _ W7 from ?_) _ (HS1.out.code 6)
 intro W7 h7
 have o0 := h7.ot.cell 0
 have o1 := h7.ot.cell 1
 have o2 := h7.ot.cell 2
 have r0 := h7.rs.cell 0
 have r1 := h7.rs.cell 1
 have r2 := h7.rs.cell 2
 have f0 := h7.rs.frozen 0
 have f1 := h7.rs.frozen 1
 have f2 := h7.rs.frozen 2
 have ol := h7.ot.lt
 have rl := h7.rs.lt
 simp at o0 o1 o2 r0 r1 r2
 have H7 := Lib.hid h7
 clear h7
 go_wp2
 refine bodyPost_ret (v := .agg #[.int .i64 6, .int .i64 0, .string noS]) (by simp [results, Tryd.results81, go_sem, r0, r1, r2]) rfl ?_
 exact H7.out.fin _ rfl
set_option maxRecDepth 100000 in
set_option maxHeartbeats 4000000 in
theorem by_none_free (nm dt : ByteArray) (a1 a2 a3 : Int) (w : World) (h : KS B w g a k ms es) (hk : KOk k) (hp : p < 4) (ha4 : a.a4 = some ⟨b4, 0, none⟩) (kd : Int) (h5 : (kd == 5) = false) (h9 : (kd == 9) = false) (h10 : (kd == 10) = false) (h11 : (kd == 11) = false) (i : Nat) (hi : i < 6) (ha : a2 = (i : Int)) (hn : ((k.procs.getD p default).ends.getD i default).kind = 0) :
  Calls Tryd.prog 81 #[.agg #[.pointer (some ⟨g, 0, none⟩)], .pointer (some ⟨b4, p * 2, none⟩), .agg #[.int .i64 kd, .int .i64 a1, .int .i64 a2, .int .i64 a3, .string nm, .string dt]] w (ByPost B w g ms ((k, ansE 6))) := by
 obtain ⟨hpl, be, c, hp', hel, HUN, HKO, HES, HPL, HPLC, HLT, HA4⟩ := by_pre w h hk hp ha4
 have S0 := ByAt.start h #[.int .i64 kd, .int .i64 a1, .int .i64 a2, .int .i64 a3, .string nm, .string dt]
 clear h hk ha4
 subst ha
 have q1 : decide ((i : Int) < 0) = false := decide_eq_false (by omega)
 have q2 : decide (6 ≤ (i : Int)) = false := decide_eq_false (by omega)
 have hi6 : (i : Int) < 6 := by omega
 have HI : Hid (i < k.procs[p].ends.length) := by show _ < _; omega
 rw [HUN.out, getD_eq HI.out] at hn
 have HNN := Lib.hid hn
 clear hn
 go_enter Tryd.func81, Tryd.ntmps81
 go_upto_region 2 with fail
 refine (show ∀ W : World, ByAt B w W g a k ms es #[.int .i64 kd, .int .i64 a1, .int .i64 (i : Int), .int .i64 a3, .string nm, .string dt] → Code.wp _ _ _ _ W from ?_) _ S0
 clear S0
 intro W0 hS
 have HS := Lib.hid hS
 clear hS
 have c0 := HS.out.ac.cell 0
 have c2 := HS.out.ac.cell 2
 have cl := HS.out.ac.lt
 simp at c0 c2
 obtain ⟨bl, z1, _⟩ := HS.out.ks.place_ hpl hp' HA4.out HES.out hel
 obtain ⟨el, y0, y1, y2⟩ := HS.out.ks.opnB hpl hp' HES.out HI.out
 rw [HNN.out] at y0
 go_wp2_with fail
 go_quiet (fail)
 have HS1 := Lib.hid (HS.out.below (Below.drewN' (Below.refl _ _) nq))
 clear HS
 clear c0 c2 cl
 clear bl z1 el y0 y1 y2
 have ol := HS1.out.ot.lt
 have o0 := HS1.out.ot.cell 0
 have o1 := HS1.out.ot.cell 1
 have of0 := HS1.out.ot.frozen 0
 have of1 := HS1.out.ot.frozen 1
 simp at o0 o1
 go_upto_region 49 with fail
 refine (show ∀ W7 : World, ByEnd B w W7 g a k ms es 6 0 noS → Code.wp _ _ _ _ W7 from ?_) _ (HS1.out.code 6)
 intro W7 h7
 have o0 := h7.ot.cell 0
 have o1 := h7.ot.cell 1
 have o2 := h7.ot.cell 2
 have r0 := h7.rs.cell 0
 have r1 := h7.rs.cell 1
 have r2 := h7.rs.cell 2
 have f0 := h7.rs.frozen 0
 have f1 := h7.rs.frozen 1
 have f2 := h7.rs.frozen 2
 have ol := h7.ot.lt
 have rl := h7.rs.lt
 simp at o0 o1 o2 r0 r1 r2
 have H7 := Lib.hid h7
 clear h7
 go_wp2
 refine bodyPost_ret (v := .agg #[.int .i64 6, .int .i64 0, .string noS]) (by simp [results, Tryd.results81, go_sem, r0, r1, r2]) rfl ?_
 exact H7.out.fin _ rfl
set_option maxRecDepth 100000 in
set_option maxHeartbeats 4000000 in
theorem by_close (nm dt : ByteArray) (a1 a2 a3 : Int) (w : World) (h : KS B w g a k ms es) (hk : KOk k) (hp : p < 4) (ha4 : a.a4 = some ⟨b4, 0, none⟩) (i : Nat) (hi : i < 6) (ha : a2 = (i : Int)) (hn : ((k.procs.getD p default).ends.getD i default).kind ≠ 0) :
  Calls Tryd.prog 81 #[.agg #[.pointer (some ⟨g, 0, none⟩)], .pointer (some ⟨b4, p * 2, none⟩), .agg #[.int .i64 6, .int .i64 a1, .int .i64 a2, .int .i64 a3, .string nm, .string dt]] w (ByPost B w g ms ((tidyK (setEnd k p i default), ansN 0))) := by
 obtain ⟨hpl, be, c, hp', hel, HUN, HKO, HES, HPL, HPLC, HLT, HA4⟩ := by_pre w h hk hp ha4
 have S0 := ByAt.start h #[.int .i64 6, .int .i64 a1, .int .i64 a2, .int .i64 a3, .string nm, .string dt]
 clear h hk ha4
 subst ha
 have q1 : decide ((i : Int) < 0) = false := decide_eq_false (by omega)
 have q2 : decide (6 ≤ (i : Int)) = false := decide_eq_false (by omega)
 have hi6 : (i : Int) < 6 := by omega
 have HI : Hid (i < k.procs[p].ends.length) := by show _ < _; omega
 have HEQ : Hid ((k.procs.getD p default).ends.getD i default = k.procs[p].ends[i]'HI.out) := by show _ = _; rw [HUN.out, getD_eq HI.out]
 obtain ⟨x, hx⟩ : ∃ x, x = (k.procs.getD p default).ends.getD i default := ⟨_, rfl⟩
 have HXE : Hid (k.procs[p].ends[i]'HI.out = x) := by show _ = _; rw [hx, HEQ.out]
 rw [← hx] at hn
 have q3 : (x.kind == 0) = false := by rw [beq_eq_false_iff_ne]; exact hn
 clear hx hn
 go_enter Tryd.func81, Tryd.ntmps81
 go_upto_region 2 with fail
 refine (show ∀ W : World, ByAt B w W g a k ms es #[.int .i64 6, .int .i64 a1, .int .i64 (i : Int), .int .i64 a3, .string nm, .string dt] → Code.wp _ _ _ _ W from ?_) _ S0
 clear S0
 intro W0 hS
 have HS := Lib.hid hS
 clear hS
 have c0 := HS.out.ac.cell 0
 have c2 := HS.out.ac.cell 2
 have cl := HS.out.ac.lt
 simp at c0 c2
 obtain ⟨bl, z1, _⟩ := HS.out.ks.place_ hpl hp' HA4.out HES.out hel
 obtain ⟨el, y0, y1, y2⟩ := HS.out.ks.opnB hpl hp' HES.out HI.out
 rw [HXE.out] at y0 y1 y2
 go_wp2_with fail
 go_quiet (fail)
 have HS1 := Lib.hid (HS.out.below (Below.drewN' (Below.refl _ _) nq))
 clear HS
 clear c0 c2 cl bl z1 el y0 y1 y2
 go_upto_region 50 with fail
 refine (show ∀ W1 : World, ByAt B w W1 g a k ms es _ → Code.wp _ _ _ _ W1 from ?_) _ (HS1.out)
 clear HS1
 intro W1 hHS1
 have HS1 := Lib.hid hHS1
 clear hHS1
 have c0 := HS1.out.ac.cell 0
 have c2 := HS1.out.ac.cell 2
 have cl := HS1.out.ac.lt
 simp at c0 c2
 obtain ⟨bl, z1, _⟩ := HS1.out.ks.place_ hpl hp' HA4.out HES.out hel
 obtain ⟨el, y0, y1, y2⟩ := HS1.out.ks.opnB hpl hp' HES.out HI.out
 rw [HXE.out] at y0 y1 y2
 go_wp2_with fail
 go_quiet (fail)
 have HS2 := Lib.hid (HS1.out.below (Below.drewN' (Below.refl _ _) nq))
 clear HS1
 clear c0 c2 cl bl z1 el y0 y1 y2
 go_upto_region 52 with fail
 refine (show ∀ W2 : World, ByAt B w W2 g a k ms es _ → Code.wp _ _ _ _ W2 from ?_) _ (HS2.out)
 clear HS2
 intro W2 hHS2
 have HS2 := Lib.hid hHS2
 clear hHS2
 have c0 := HS2.out.ac.cell 0
 have cl := HS2.out.ac.lt
 simp at c0
 obtain ⟨bl, z1, _⟩ := HS2.out.ks.place_ hpl hp' HA4.out HES.out hel
 obtain ⟨el, y0, y1, y2⟩ := HS2.out.ks.opnB hpl hp' HES.out HI.out
 have g0 := HS2.out.ks.rdF hpl hp' HES.out (i * 3)
 have g1 := HS2.out.ks.rdF hpl hp' HES.out (i * 3 + 1)
 have g2 := HS2.out.ks.rdF hpl hp' HES.out (i * 3 + 2)
 have HN := Lib.hid (HS2.out.ks.endAll hpl hp' HES.out HI.out (default : Opn))
 go_upto_region 54 with fail
 refine (show ∀ W3 : World, ByAt B w W3 g a (setEnd k p i default) ms es _ → Code.wp _ _ _ _ W3 from ?_) _ (HS2.out.next HN.out.1 HN.out.2)
 clear HN HS2 bl z1 el y0 y1 y2 g0 g1 g2 c0 cl
 intro W3 hHS3
 have HS3 := Lib.hid hHS3
 clear hHS3
 have x0 := HS3.out.wk.cell 0
 have xl := HS3.out.wk.lt
 simp at x0
 have HT := Lib.hid (tidy_any W3 HS3.out.ks HKO.out.l2 HKO.out.l3 (by rw [setEnd_eq hpl]; simp only [List.length_set]; exact HKO.out.l4))
 go_wp2_with fail
 refine HT.out.mono ?_
 rintro e w4 ⟨rfl, hK2, hF2⟩
 have HS4 := Lib.hid (HS3.out.next hK2 hF2)
 clear HT hK2 hF2 x0 xl HS3
 have ol := HS4.out.ot.lt
 have o0 := HS4.out.ot.cell 0
 have o1 := HS4.out.ot.cell 1
 have of0 := HS4.out.ot.frozen 0
 have of1 := HS4.out.ot.frozen 1
 simp at o0 o1
 go_upto_region 61 with fail
 refine (show ∀ W7 : World, ByEnd B w W7 g a (tidyK (setEnd k p i default)) ms es 0 0 noS → Code.wp _ _ _ _ W7 from ?_) _ (HS4.out.nothing)
 intro W7 h7
 have o0 := h7.ot.cell 0
 have o1 := h7.ot.cell 1
 have o2 := h7.ot.cell 2
 have r0 := h7.rs.cell 0
 have r1 := h7.rs.cell 1
 have r2 := h7.rs.cell 2
 have f0 := h7.rs.frozen 0
 have f1 := h7.rs.frozen 1
 have f2 := h7.rs.frozen 2
 have ol := h7.ot.lt
 have rl := h7.rs.lt
 simp at o0 o1 o2 r0 r1 r2
 have H7 := Lib.hid h7
 clear h7
 go_wp2
 refine bodyPost_ret (v := .agg #[.int .i64 0, .int .i64 0, .string noS]) (by simp [results, Tryd.results81, go_sem, r0, r1, r2]) rfl ?_
 exact H7.out.fin _ rfl
set_option maxRecDepth 100000 in
set_option maxHeartbeats 4000000 in
theorem by_kind7 (nm dt : ByteArray) (a1 a2 a3 : Int) (w : World) (h : KS B w g a k ms es) (hk : KOk k) (hp : p < 4) (ha4 : a.a4 = some ⟨b4, 0, none⟩) (i : Nat) (hi : i < 6) (ha : a2 = (i : Int)) (hn : ((k.procs.getD p default).ends.getD i default).kind ≠ 0) (hk3 : ((k.procs.getD p default).ends.getD i default).kind = 3) :
  Calls Tryd.prog 81 #[.agg #[.pointer (some ⟨g, 0, none⟩)], .pointer (some ⟨b4, p * 2, none⟩), .agg #[.int .i64 7, .int .i64 a1, .int .i64 a2, .int .i64 a3, .string nm, .string dt]] w (ByPost B w g ms ((k, ansE 3))) := by
 obtain ⟨hpl, be, c, hp', hel, HUN, HKO, HES, HPL, HPLC, HLT, HA4⟩ := by_pre w h hk hp ha4
 have S0 := ByAt.start h #[.int .i64 7, .int .i64 a1, .int .i64 a2, .int .i64 a3, .string nm, .string dt]
 clear h hk ha4
 subst ha
 have q1 : decide ((i : Int) < 0) = false := decide_eq_false (by omega)
 have q2 : decide (6 ≤ (i : Int)) = false := decide_eq_false (by omega)
 have hi6 : (i : Int) < 6 := by omega
 have HI : Hid (i < k.procs[p].ends.length) := by show _ < _; omega
 have HEQ : Hid ((k.procs.getD p default).ends.getD i default = k.procs[p].ends[i]'HI.out) := by show _ = _; rw [HUN.out, getD_eq HI.out]
 obtain ⟨x, hx⟩ : ∃ x, x = (k.procs.getD p default).ends.getD i default := ⟨_, rfl⟩
 have HXE : Hid (k.procs[p].ends[i]'HI.out = x) := by show _ = _; rw [hx, HEQ.out]
 rw [← hx] at hn
 rw [← hx] at hk3
 have q4 : (x.kind == 3) = true := by rw [hk3]; rfl
 clear hk3
 have q3 : (x.kind == 0) = false := by rw [beq_eq_false_iff_ne]; exact hn
 clear hx hn
 go_enter Tryd.func81, Tryd.ntmps81
 go_upto_region 2 with fail
 refine (show ∀ W : World, ByAt B w W g a k ms es #[.int .i64 7, .int .i64 a1, .int .i64 (i : Int), .int .i64 a3, .string nm, .string dt] → Code.wp _ _ _ _ W from ?_) _ S0
 clear S0
 intro W0 hS
 have HS := Lib.hid hS
 clear hS
 have c0 := HS.out.ac.cell 0
 have c2 := HS.out.ac.cell 2
 have cl := HS.out.ac.lt
 simp at c0 c2
 obtain ⟨bl, z1, _⟩ := HS.out.ks.place_ hpl hp' HA4.out HES.out hel
 obtain ⟨el, y0, y1, y2⟩ := HS.out.ks.opnB hpl hp' HES.out HI.out
 rw [HXE.out] at y0 y1 y2
 go_wp2_with fail
 go_quiet (fail)
 have HS1 := Lib.hid (HS.out.below (Below.drewN' (Below.refl _ _) nq))
 clear HS
 clear c0 c2 cl bl z1 el y0 y1 y2
 go_upto_region 50 with fail
 refine (show ∀ W1 : World, ByAt B w W1 g a k ms es _ → Code.wp _ _ _ _ W1 from ?_) _ (HS1.out)
 clear HS1
 intro W1 hHS1
 have HS1 := Lib.hid hHS1
 clear hHS1
 have c0 := HS1.out.ac.cell 0
 have c2 := HS1.out.ac.cell 2
 have cl := HS1.out.ac.lt
 simp at c0 c2
 obtain ⟨bl, z1, _⟩ := HS1.out.ks.place_ hpl hp' HA4.out HES.out hel
 obtain ⟨el, y0, y1, y2⟩ := HS1.out.ks.opnB hpl hp' HES.out HI.out
 rw [HXE.out] at y0 y1 y2
 go_wp2_with fail
 go_quiet (fail)
 have HS2 := Lib.hid (HS1.out.below (Below.drewN' (Below.refl _ _) nq))
 clear HS1
 clear c0 c2 cl bl z1 el y0 y1 y2
 go_upto_region 52 with fail
 refine (show ∀ W2 : World, ByAt B w W2 g a k ms es _ → Code.wp _ _ _ _ W2 from ?_) _ (HS2.out)
 clear HS2
 intro W2 hHS2
 have HS2 := Lib.hid hHS2
 clear hHS2
 have c0 := HS2.out.ac.cell 0
 have cl := HS2.out.ac.lt
 simp at c0
 obtain ⟨bl, z1, _⟩ := HS2.out.ks.place_ hpl hp' HA4.out HES.out hel
 obtain ⟨el, y0, y1, y2⟩ := HS2.out.ks.opnB hpl hp' HES.out HI.out
 rw [HXE.out] at y0 y1 y2
 have ol := HS2.out.ot.lt
 have o0 := HS2.out.ot.cell 0
 have o1 := HS2.out.ot.cell 1
 have of0 := HS2.out.ot.frozen 0
 have of1 := HS2.out.ot.frozen 1
 simp at o0 o1
 go_upto_region 61 with fail
 refine (show ∀ W7 : World, ByEnd B w W7 g a k ms es 3 0 noS → Code.wp _ _ _ _ W7 from ?_) _ (HS2.out.code 3)
 intro W7 h7
 have o0 := h7.ot.cell 0
 have o1 := h7.ot.cell 1
 have o2 := h7.ot.cell 2
 have r0 := h7.rs.cell 0
 have r1 := h7.rs.cell 1
 have r2 := h7.rs.cell 2
 have f0 := h7.rs.frozen 0
 have f1 := h7.rs.frozen 1
 have f2 := h7.rs.frozen 2
 have ol := h7.ot.lt
 have rl := h7.rs.lt
 simp at o0 o1 o2 r0 r1 r2
 have H7 := Lib.hid h7
 clear h7
 go_wp2
 refine bodyPost_ret (v := .agg #[.int .i64 3, .int .i64 0, .string noS]) (by simp [results, Tryd.results81, go_sem, r0, r1, r2]) rfl ?_
 exact H7.out.fin _ rfl
set_option maxRecDepth 100000 in
set_option maxHeartbeats 4000000 in
theorem by_kind8 (nm dt : ByteArray) (a1 a2 a3 : Int) (w : World) (h : KS B w g a k ms es) (hk : KOk k) (hp : p < 4) (ha4 : a.a4 = some ⟨b4, 0, none⟩) (i : Nat) (hi : i < 6) (ha : a2 = (i : Int)) (hn : ((k.procs.getD p default).ends.getD i default).kind ≠ 0) (hk3 : ((k.procs.getD p default).ends.getD i default).kind = 2) :
  Calls Tryd.prog 81 #[.agg #[.pointer (some ⟨g, 0, none⟩)], .pointer (some ⟨b4, p * 2, none⟩), .agg #[.int .i64 8, .int .i64 a1, .int .i64 a2, .int .i64 a3, .string nm, .string dt]] w (ByPost B w g ms ((k, ansE 3))) := by
 obtain ⟨hpl, be, c, hp', hel, HUN, HKO, HES, HPL, HPLC, HLT, HA4⟩ := by_pre w h hk hp ha4
 have S0 := ByAt.start h #[.int .i64 8, .int .i64 a1, .int .i64 a2, .int .i64 a3, .string nm, .string dt]
 clear h hk ha4
 subst ha
 have q1 : decide ((i : Int) < 0) = false := decide_eq_false (by omega)
 have q2 : decide (6 ≤ (i : Int)) = false := decide_eq_false (by omega)
 have hi6 : (i : Int) < 6 := by omega
 have HI : Hid (i < k.procs[p].ends.length) := by show _ < _; omega
 have HEQ : Hid ((k.procs.getD p default).ends.getD i default = k.procs[p].ends[i]'HI.out) := by show _ = _; rw [HUN.out, getD_eq HI.out]
 obtain ⟨x, hx⟩ : ∃ x, x = (k.procs.getD p default).ends.getD i default := ⟨_, rfl⟩
 have HXE : Hid (k.procs[p].ends[i]'HI.out = x) := by show _ = _; rw [hx, HEQ.out]
 rw [← hx] at hn
 rw [← hx] at hk3
 have q4 : (x.kind == 2) = true := by rw [hk3]; rfl
 clear hk3
 have q3 : (x.kind == 0) = false := by rw [beq_eq_false_iff_ne]; exact hn
 clear hx hn
 go_enter Tryd.func81, Tryd.ntmps81
 go_upto_region 2 with fail
 refine (show ∀ W : World, ByAt B w W g a k ms es #[.int .i64 8, .int .i64 a1, .int .i64 (i : Int), .int .i64 a3, .string nm, .string dt] → Code.wp _ _ _ _ W from ?_) _ S0
 clear S0
 intro W0 hS
 have HS := Lib.hid hS
 clear hS
 have c0 := HS.out.ac.cell 0
 have c2 := HS.out.ac.cell 2
 have cl := HS.out.ac.lt
 simp at c0 c2
 obtain ⟨bl, z1, _⟩ := HS.out.ks.place_ hpl hp' HA4.out HES.out hel
 obtain ⟨el, y0, y1, y2⟩ := HS.out.ks.opnB hpl hp' HES.out HI.out
 rw [HXE.out] at y0 y1 y2
 go_wp2_with fail
 go_quiet (fail)
 have HS1 := Lib.hid (HS.out.below (Below.drewN' (Below.refl _ _) nq))
 clear HS
 clear c0 c2 cl bl z1 el y0 y1 y2
 go_upto_region 50 with fail
 refine (show ∀ W1 : World, ByAt B w W1 g a k ms es _ → Code.wp _ _ _ _ W1 from ?_) _ (HS1.out)
 clear HS1
 intro W1 hHS1
 have HS1 := Lib.hid hHS1
 clear hHS1
 have c0 := HS1.out.ac.cell 0
 have c2 := HS1.out.ac.cell 2
 have cl := HS1.out.ac.lt
 simp at c0 c2
 obtain ⟨bl, z1, _⟩ := HS1.out.ks.place_ hpl hp' HA4.out HES.out hel
 obtain ⟨el, y0, y1, y2⟩ := HS1.out.ks.opnB hpl hp' HES.out HI.out
 rw [HXE.out] at y0 y1 y2
 go_wp2_with fail
 go_quiet (fail)
 have HS2 := Lib.hid (HS1.out.below (Below.drewN' (Below.refl _ _) nq))
 clear HS1
 clear c0 c2 cl bl z1 el y0 y1 y2
 go_upto_region 52 with fail
 refine (show ∀ W2 : World, ByAt B w W2 g a k ms es _ → Code.wp _ _ _ _ W2 from ?_) _ (HS2.out)
 clear HS2
 intro W2 hHS2
 have HS2 := Lib.hid hHS2
 clear hHS2
 have c0 := HS2.out.ac.cell 0
 have cl := HS2.out.ac.lt
 simp at c0
 obtain ⟨bl, z1, _⟩ := HS2.out.ks.place_ hpl hp' HA4.out HES.out hel
 obtain ⟨el, y0, y1, y2⟩ := HS2.out.ks.opnB hpl hp' HES.out HI.out
 rw [HXE.out] at y0 y1 y2
 have ol := HS2.out.ot.lt
 have o0 := HS2.out.ot.cell 0
 have o1 := HS2.out.ot.cell 1
 have of0 := HS2.out.ot.frozen 0
 have of1 := HS2.out.ot.frozen 1
 simp at o0 o1
 go_upto_region 61 with fail
 refine (show ∀ W7 : World, ByEnd B w W7 g a k ms es 3 0 noS → Code.wp _ _ _ _ W7 from ?_) _ (HS2.out.code 3)
 intro W7 h7
 have o0 := h7.ot.cell 0
 have o1 := h7.ot.cell 1
 have o2 := h7.ot.cell 2
 have r0 := h7.rs.cell 0
 have r1 := h7.rs.cell 1
 have r2 := h7.rs.cell 2
 have f0 := h7.rs.frozen 0
 have f1 := h7.rs.frozen 1
 have f2 := h7.rs.frozen 2
 have ol := h7.ot.lt
 have rl := h7.rs.lt
 simp at o0 o1 o2 r0 r1 r2
 have H7 := Lib.hid h7
 clear h7
 go_wp2
 refine bodyPost_ret (v := .agg #[.int .i64 3, .int .i64 0, .string noS]) (by simp [results, Tryd.results81, go_sem, r0, r1, r2]) rfl ?_
 exact H7.out.fin _ rfl
end
end Go.Proofs.YtdjamdbamkhblacDoor
