/- The walk of keep.KernelsGood. No condition. The walk of the machine's loads and stores: no condition. -/
import Derived.Test.YtdjamdbamkhblacDoorG29
import Derived.Test.YtdjamdbamkhblacDoorG27
import Derived.Test.YtdjamdbamkhblacDoorKCheckW
import Derived.Test.YtdjamdbamkhblacDoorKernCopyW
import Derived.OwnWalk
import Derived.Test.YtdjamdbamkhblacDoorG16
import Derived.Deep.RegionLaw
namespace Go.Proofs.YtdjamdbamkhblacDoor
open Go.RowKit
set_option linter.unusedVariables false
set_option linter.unusedSimpArgs false
theorem Sls.two {w W : World} {A A' : Option Addr} {c c' : Nat} {l l' : List Akt} {t : TypeId} (h : RowA w W A c l) (h' : RowA w W A' c' l') : Sls (W.alloc (.cells #[.slice A l.length c, .slice A' l'.length c'] t)) (W.alloc (.cells #[.slice A l.length c, .slice A' l'.length c'] t)).heap.size W.heap.size [(A, c, l), (A', c', l')] := by
 have hba := (Below.refl W.heap.size W).alloc (Nat.le_refl _) (.cells #[.slice A l.length c, .slice A' l'.length c'] t)
 have hB := Blk.new W t #[.slice A l.length c, .slice A' l'.length c']
 refine ⟨by simp, fun q hq => ?_, fun q hq => ?_⟩
 ·have : q = 0 ∨ q = 1 := by simp at hq; omega
  rcases this with rfl | rfl
  ·exact hB.cell 0
  ·exact hB.cell 1
 ·have : q = 0 ∨ q = 1 := by simp at hq; omega
  rcases this with rfl | rfl
  ·exact RdA.of ((Rd.of_own (h.below hba).own))
  ·exact RdA.of ((Rd.of_own (h'.below hba).own))
theorem ActOk.akt {l : List Akt} (h : ∀ a ∈ l, ActOk a) : ActsOk l := fun a ha => by
 have hx := h a ha
 have h0 : noS.size ≤ maxLen := by decide
 refine ⟨?_, by have := hx.data; unfold maxLen; omega⟩
 rcases hx.name with e | e
 ·rw [e]; exact h0
 ·simp only [List.mem_cons, List.not_mem_nil, or_false] at e
  rcases e with e | e | e <;> rw [e] <;> decide
structure KB (W : World) (g : Nat) (a : KA) (k : Krn) : Prop where
 kn : ∀ W' : World, Stp W W' → KrnAt W' W'.heap.size a k
 cp : a.caps k
 bk : Blk W g 36 (a.cells k)
theorem KB.below {W W' : World} {g : Nat} {a : KA} {k : Krn} (h : KB W g a k) (hb : Below W.heap.size W W') : KB W' g a k :=
 ⟨fun X hS => h.kn X ((Stp.of_below hb).trans hS), h.cp, h.bk.below hb h.bk.lt⟩
theorem KB.mk' {W : World} {a : KA} {k : Krn} (hK : ∀ W' : World, Stp W W' → KrnAt W' W'.heap.size a k) (hc : a.caps k) : KB (W.alloc (.cells (a.cells k) 36)) W.heap.size a k :=
 ⟨fun X hS => hK X ((Stp.of_below ((Below.refl W.heap.size W).alloc (Nat.le_refl _) _)).trans hS), hc, Blk.new _ _ _⟩
theorem KB.krn {W : World} {g : Nat} {a : KA} {k : Krn} (h : KB W g a k) : KrnAt W W.heap.size a k := h.kn W (Stp.refl _)
set_option maxRecDepth 100000 in
set_option maxHeartbeats 4000000 in
theorem KernelsGood_any (HRC : RunC 156) (A : Option Addr) (c : Nat) (l : List Ins) (x : Int) (w : World) (hr : RdI w w.heap.size A l) (hwf : ∀ i ∈ l, i.wf) (hl : l.length ≤ maxLen) (wx : (Lit.int .i64 x).wf = true) (ht : Tab w) :
  Calls Tryd.prog 5 #[.slice A l.length c, .int .i64 x] w fun e w' => e = .returned (.bool true) ∧ Below w.heap.size w w' := by
 obtain ⟨x1, x2⟩ := wf64_of wx
 have HACT : Hid (Calls Tryd.prog 15 #[.slice A l.length c, .int .i64 80] w fun e w' => ∃ A' c', e = .returned (.slice A' (actsL l 80).length c') ∧ RowA w w' A' c' (actsL l 80)) := Acts_any A c 80 l w hr hwf hl (by omega)
 have HT := Lib.hid ht
 have hln := actsL_length l 80
 have hok := actsL_ok l 80
 obtain ⟨L, hL⟩ : ∃ L, L = actsL l 80 := ⟨_, rfl⟩
 rw [← hL] at HACT hln hok
 obtain ⟨q, hq⟩ : ∃ q, q = pick x 9 := ⟨_, rfl⟩
 have hq9 : q < 9 := by rw [hq]; exact pick_lt _ (by omega)
 have PQ : Hid (∀ W : World, Calls Tryd.prog 13 #[.int .i64 x, .int .i64 9] W fun e w' => e = .returned (.int .i64 (q : Nat)) ∧ W = w') := fun W => by rw [hq]; exact picked_any x 9 W x1 x2 (by omega) (by omega)
 obtain ⟨i0, hi0, hz0, hz1, hz2⟩ := info_parts info_Akt
 have hU := Tryd.underlying27
 have hb80 : i0.bytes * 201 ≤ 281474976710656 := by rw [hz2]; omega
 have HLN := Lib.hid hln
 have HOK := Lib.hid hok
 clear hr hwf hl wx ht hL hq x1 x2 hln hok
 go_enter Tryd.func5, Tryd.ntmps5
 go_wp2_with fail
 refine HACT.out.mono ?_
 rintro e w1 ⟨A1, c1, rfl, h1⟩
 have hba := (Below.refl w1.heap.size w1).alloc (Nat.le_refl _) (.cells #[.slice A1 L.length c1] 27)
 have HBA := Lib.hid (h1.be.trans (hba.mono h1.be.size))
 have HRAN : Hid (Calls Tryd.prog 14 #[.slice (some ⟨w1.heap.size, 0, none⟩) 1 1] (w1.alloc (.cells #[.slice A1 L.length c1] 27)) (RanPost (w1.alloc (.cells #[.slice A1 L.length c1] 27)) (runK newK L))) :=
  Ran_any HRC w1.heap.size 1 [(A1, c1, L)] L _ (Sls.one h1) (by simp) (by simp [flatS]) (by have := HLN.out; omega) (ActOk.akt HOK.out) (HT.out.below HBA.out)
 have H1 := Lib.hid (h1.below hba)
 clear h1 hba HACT
 go_wp2_with fail
 refine HRAN.out.mono ?_
 rintro e w3 ⟨AA, cA, ak, rfl, hO, hK, hcp, hb3⟩
 have hla := runK_len L newK
 have hkk := runK_ok L newK_ok
 have hbare : Bare [fS, gS, devS] (runK newK L).1 := Bare.runs L (newK_bare _) (fun a ha => ⟨by have := (HOK.out a ha).k2; omega, (HOK.out a ha).name⟩)
 have HODD := Lib.hid (odd_runs hkk hbare (12 + (q : Int)) (by omega))
 have HAPP := Lib.hid (runK_app L (oddActs (12 + (q : Int))) newK)
 obtain ⟨⟨k, la⟩, hkl⟩ : ∃ r, r = runK newK L := ⟨_, rfl⟩
 rw [← hkl] at hO hK hcp hla hkk HODD HAPP
 rw [← hkl]
 simp only at hO hK hcp hla hkk HODD HAPP
 have h1 := H1.out.below hb3
 have hkb := KB.mk' hK hcp
 have hba := (Below.refl w3.heap.size w3).alloc (Nat.le_refl _) (.cells (ak.cells k) 36)
 have H3 := Lib.hid (h1.below hba)
 have HKB := Lib.hid hkb
 have HLA := Lib.hid hla
 have HKK := Lib.hid hkk
 clear hO hK hcp hla hkk hbare hkl h1 hkb hba hb3 HRAN H1 HBA
 unfold KA.cells at H3 ⊢
 go_upto_region 3 with fail
 refine (show ∀ W : World, RowA w W A1 c1 L → KB W w3.heap.size ak k → Code.wp _ _ _ _ W from ?_) _ H3.out HKB.out
 clear H3 HKB
 intro W3 h1 hkb
 have hbo := (Below.refl W3.heap.size W3).alloc (Nat.le_refl _) (.cells #[.int .i64 (12 + (q : Int)), .int .i64 0, .int .i64 0, .int .i64 0, .string ⟨#[]⟩, .string ⟨#[]⟩, .int .i64 7, .int .i64 4, .int .i64 0, .int .i64 0, .string ⟨#[]⟩, .string ⟨#[]⟩, .int .i64 1, .int .i64 0, .int .i64 0, .int .i64 0, .string ⟨#[]⟩, .string ⟨#[97, 98, 99]⟩, .int .i64 3, .int .i64 0, .int .i64 0, .int .i64 0, .string ⟨#[120]⟩, .string ⟨#[]⟩, .int .i64 4, .int .i64 0, .int .i64 0, .int .i64 0, .string ⟨#[122, 122]⟩, .string ⟨#[]⟩] 26)
 have h2 := RowA.lit (w := w) h1.be (l := oddActs (12 + (q : Int))) (cs := #[.int .i64 (12 + (q : Int)), .int .i64 0, .int .i64 0, .int .i64 0, .string ⟨#[]⟩, .string ⟨#[]⟩, .int .i64 7, .int .i64 4, .int .i64 0, .int .i64 0, .string ⟨#[]⟩, .string ⟨#[]⟩, .int .i64 1, .int .i64 0, .int .i64 0, .int .i64 0, .string ⟨#[]⟩, .string ⟨#[97, 98, 99]⟩, .int .i64 3, .int .i64 0, .int .i64 0, .int .i64 0, .string ⟨#[120]⟩, .string ⟨#[]⟩, .int .i64 4, .int .i64 0, .int .i64 0, .int .i64 0, .string ⟨#[122, 122]⟩, .string ⟨#[]⟩]) rfl (by simp [oddActs])
 have h3 := h1.below hbo
 obtain ⟨WO, hWO⟩ : ∃ WO, WO = W3.alloc (.cells #[.int .i64 (12 + (q : Int)), .int .i64 0, .int .i64 0, .int .i64 0, .string ⟨#[]⟩, .string ⟨#[]⟩, .int .i64 7, .int .i64 4, .int .i64 0, .int .i64 0, .string ⟨#[]⟩, .string ⟨#[]⟩, .int .i64 1, .int .i64 0, .int .i64 0, .int .i64 0, .string ⟨#[]⟩, .string ⟨#[97, 98, 99]⟩, .int .i64 3, .int .i64 0, .int .i64 0, .int .i64 0, .string ⟨#[120]⟩, .string ⟨#[]⟩, .int .i64 4, .int .i64 0, .int .i64 0, .int .i64 0, .string ⟨#[122, 122]⟩, .string ⟨#[]⟩] 26) := ⟨_, rfl⟩
 have hsz : WO.heap.size = W3.heap.size + 1 := by rw [hWO]; simp
 rw [← hWO] at h2 h3 hbo
 have hs2 := Sls.two (t := 27) h3 h2
 have hba := (Below.refl WO.heap.size WO).alloc (Nat.le_refl _) (.cells #[.slice A1 L.length c1, .slice (some ⟨W3.heap.size, 0, none⟩) (oddActs (12 + (q : Int))).length (oddActs (12 + (q : Int))).length] 27)
 have hbb := h3.be.trans (hba.mono h3.be.size)
 have hokk : ActsOk (L ++ oddActs (12 + (q : Int))) := fun a ha => by
  rcases List.mem_append.1 ha with ha | ha
  ·exact ActOk.akt HOK.out a ha
  ·have h0 : noS.size ≤ maxLen := by decide
   have h1 : abcS.size ≤ maxLen := by decide
   have h2 : xS.size ≤ maxLen := by decide
   have h3 : zzS.size ≤ maxLen := by decide
   simp only [oddActs, List.mem_cons, List.not_mem_nil, or_false] at ha
   rcases ha with rfl | rfl | rfl | rfl | rfl <;> exact ⟨by first | exact h0 | exact h2 | exact h3, by first | exact h0 | exact h1⟩
 have hran := Ran_any HRC WO.heap.size 2 [(A1, c1, L), (some ⟨W3.heap.size, 0, none⟩, (oddActs (12 + (q : Int))).length, oddActs (12 + (q : Int)))] (L ++ oddActs (12 + (q : Int))) _ hs2 (by simp) (by simp [flatS]) (by rw [List.length_append]; have := HLN.out; simp [oddActs]; omega) hokk (HT.out.below hbb)
 have hr2 : runK newK (L ++ oddActs (12 + (q : Int))) = (k, la ++ [ansE 3, ansE 6, ansE 5, ansE 6, ansE 6]) := by rw [HAPP.out, HODD.out]
 rw [hr2, hsz] at hran
 rw [hWO] at hran hbb hba hbo
 have HRAN2 : Hid (Calls Tryd.prog 14 #[.slice (some ⟨W3.heap.size + 1, 0, none⟩) 2 2] ((W3.alloc (.cells #[.int .i64 (12 + (q : Int)), .int .i64 0, .int .i64 0, .int .i64 0, .string ⟨#[]⟩, .string ⟨#[]⟩, .int .i64 7, .int .i64 4, .int .i64 0, .int .i64 0, .string ⟨#[]⟩, .string ⟨#[]⟩, .int .i64 1, .int .i64 0, .int .i64 0, .int .i64 0, .string ⟨#[]⟩, .string ⟨#[97, 98, 99]⟩, .int .i64 3, .int .i64 0, .int .i64 0, .int .i64 0, .string ⟨#[120]⟩, .string ⟨#[]⟩, .int .i64 4, .int .i64 0, .int .i64 0, .int .i64 0, .string ⟨#[122, 122]⟩, .string ⟨#[]⟩] 26)).alloc (.cells #[.slice A1 L.length c1, .slice (some ⟨W3.heap.size, 0, none⟩) 5 5] 27)) (RanPost ((W3.alloc (.cells #[.int .i64 (12 + (q : Int)), .int .i64 0, .int .i64 0, .int .i64 0, .string ⟨#[]⟩, .string ⟨#[]⟩, .int .i64 7, .int .i64 4, .int .i64 0, .int .i64 0, .string ⟨#[]⟩, .string ⟨#[]⟩, .int .i64 1, .int .i64 0, .int .i64 0, .int .i64 0, .string ⟨#[]⟩, .string ⟨#[97, 98, 99]⟩, .int .i64 3, .int .i64 0, .int .i64 0, .int .i64 0, .string ⟨#[120]⟩, .string ⟨#[]⟩, .int .i64 4, .int .i64 0, .int .i64 0, .int .i64 0, .string ⟨#[122, 122]⟩, .string ⟨#[]⟩] 26)).alloc (.cells #[.slice A1 L.length c1, .slice (some ⟨W3.heap.size, 0, none⟩) 5 5] 27)) (k, la ++ [ansE 3, ansE 6, ansE 5, ansE 6, ansE 6]))) := hran
 have HKB := Lib.hid ((hkb.below hbo).below hba)
 have HBB := Lib.hid hbb
 clear hbo h2 h3 hsz hs2 hba hbb hokk hran hr2 hkb h1 hWO HODD HAPP
 go_wp2_with fail
 refine (PQ.out _).mono ?_
 rintro e w' ⟨rfl, rfl⟩
 go_wp2_with fail
 refine HRAN2.out.mono ?_
 rintro e w4 ⟨AB, cB, ak2, rfl, hO, hK, hcp, hb4⟩
 have hlb : (la ++ [ansE 3, ansE 6, ansE 5, ansE 6, ansE 6]).length = L.length + 5 := by rw [List.length_append, HLA.out]; rfl
 obtain ⟨bx, rfl, hbx, hcx⟩ := RunKPost.at_ hO (by show 0 < (la ++ [ansE 3, ansE 6, ansE 5, ansE 6, ansE 6]).length; omega)
 simp only
 simp only at hO hK hcp hcx
 rw [hlb]
 obtain ⟨n, hn⟩ : ∃ n, n = L.length := ⟨_, rfl⟩
 have hcode : ∀ i (hi : i < 5), w4.cell? ⟨bx, (n + i) * 3, none⟩ = some (.int .i64 ([ansE 3, ansE 6, ansE 5, ansE 6, ansE 6][i]'hi).code) := fun i hi => by
  have h := (hcx (n + i) (by omega)).1
  rw [List.getElem_append_right (by rw [HLA.out]; omega)] at h
  have e : n + i - la.length = i := by rw [HLA.out]; omega
  simp only [e] at h
  exact h
 have y0 : w4.cell? ⟨bx, n * 3, none⟩ = some (.int .i64 3) := hcode 0 (by omega)
 have y1 : w4.cell? ⟨bx, (n + 1) * 3, none⟩ = some (.int .i64 6) := hcode 1 (by omega)
 have y2 : w4.cell? ⟨bx, (n + 2) * 3, none⟩ = some (.int .i64 5) := hcode 2 (by omega)
 have y3 : w4.cell? ⟨bx, (n + 3) * 3, none⟩ = some (.int .i64 6) := hcode 3 (by omega)
 have y4 : w4.cell? ⟨bx, (n + 4) * 3, none⟩ = some (.int .i64 6) := hcode 4 (by omega)
 have hln80 : n ≤ 80 := by rw [hn]; exact HLN.out
 rw [HLA.out]
 rw [← hn]
 have hk1 := HKB.out.below hb4
 have hk2 := KB.mk' hK hcp
 have hba := (Below.refl w4.heap.size w4).alloc (Nat.le_refl _) (.cells (ak2.cells k) 36)
 have hbw := HBB.out.trans (hb4.mono HBB.out.size)
 have HY := Lib.hid (And.intro ((hba.cell (p := ⟨bx, n * 3, none⟩) hbx).trans y0) (And.intro ((hba.cell (p := ⟨bx, (n + 1) * 3, none⟩) hbx).trans y1) (And.intro ((hba.cell (p := ⟨bx, (n + 2) * 3, none⟩) hbx).trans y2) (And.intro ((hba.cell (p := ⟨bx, (n + 3) * 3, none⟩) hbx).trans y3) (And.intro ((hba.cell (p := ⟨bx, (n + 4) * 3, none⟩) hbx).trans y4) (Nat.lt_of_lt_of_le hbx hba.size))))))
 have HK1 := Lib.hid (hk1.below hba)
 have HK2 := Lib.hid hk2
 have HB4 := Lib.hid (hbw.trans (hba.mono hbw.size))
 clear hO hK hcp hb4 hlb hbx hcx hcode y0 y1 y2 y3 y4 hk1 hk2 hba hbw hn HRAN2 HBB HKB HLA HLN HOK
 unfold KA.cells at HY HK1 HK2 HB4 ⊢
 go_upto_region 4 with fail
 refine (show ∀ W : World, (W.cell? ⟨bx, n * 3, none⟩ = some (.int .i64 3) ∧ W.cell? ⟨bx, (n + 1) * 3, none⟩ = some (.int .i64 6) ∧ W.cell? ⟨bx, (n + 2) * 3, none⟩ = some (.int .i64 5) ∧ W.cell? ⟨bx, (n + 3) * 3, none⟩ = some (.int .i64 6) ∧ W.cell? ⟨bx, (n + 4) * 3, none⟩ = some (.int .i64 6) ∧ bx < W.heap.size) → KB W w3.heap.size ak k → KB W w4.heap.size ak2 k → Below w.heap.size w W → Code.wp _ _ _ _ W from ?_) _ HY.out HK1.out HK2.out HB4.out
 clear HY HK1 HK2 HB4
 intro W5 hy hk1 hk2 hb
 have HY := Lib.hid hy
 have HK1 := Lib.hid hk1
 have HK2 := Lib.hid hk2
 have HB5 := Lib.hid hb
 clear hy hk1 hk2 hb
 go_wp2_with (at_make; (refine wpList_make_full _ rfl (.const (.int .i64 201)) (.const (.int .i64 201)) 27 rfl W5.heap.size 26 i0 _ 6 hU hi0 hz0 hz1 .i64 .i64 201 201 201 rfl rfl rfl rfl hb80 (by unfold maxLen; omega) (Nat.le_refl _) ?_); intro w6 _ hg6; have HB6 := Lib.hid ((Below.refl W5.heap.size W5).grown hg6 (Nat.le_refl _) (fun q hq => by cases hq)); clear hg6)
 refine (KRun_many _ 201 _ w6 (by omega)).mono ?_
 rintro e w7 ⟨rfl, hb7⟩
 unfold manyK
 have hb8 := hb7.trans ((Below.refl w7.heap.size w7).alloc (Nat.le_refl _) (.cells #[.slice none 0 0, .slice none 0 0, .slice none 0 0, .slice none 0 0, .slice none 0 0] 36) |>.mono hb7.size)
 have HB8 := Lib.hid (HB6.out.trans (hb8.mono HB6.out.size))
 clear hb7 hb8
 go_upto_region 5 with fail
 refine (show ∀ W : World, Below W5.heap.size W5 W → Code.wp _ _ _ _ W from ?_) _ HB8.out
 clear HB8 HB6
 intro W8 hb8
 have hk1 := HK1.out.below hb8
 have hk2 := HK2.out.below hb8
 have hc0 : kcheck k = 0 := (kcheck_iff k).2 HKK.out
 have HC0 := Lib.hid hc0
 have HB8 := Lib.hid hb8
 have HK1' := Lib.hid hk1
 have HK2' := Lib.hid hk2
 have d0 := hk1.bk.cell 0
 have d1 := hk1.bk.cell 1
 have d2 := hk1.bk.cell 2
 have d3 := hk1.bk.cell 3
 have d4 := hk1.bk.cell 4
 have dl := hk1.bk.lt
 simp [KA.cells] at d0 d1 d2 d3 d4
 have HCH : Hid (Calls Tryd.prog 17 #[.agg #[.slice ak.a0 k.mods.length ak.c0, .slice ak.a1 k.mem.length ak.c1, .slice ak.a2 k.nodes.length ak.c2, .slice ak.a3 k.pipes.length ak.c3, .slice ak.a4 k.procs.length ak.c4]] W8 fun e w' => e = .returned (.int .i64 (kcheck k)) ∧ Below W8.heap.size W8 w') :=
  KCheck_any k ak W8 hk1.krn HKK.out.small hk1.cp (HT.out.below (HB5.out.trans (hb8.mono HB5.out.size)))
 clear hb8 hk1 hk2 hc0
 go_wp2_with fail
 refine HCH.out.mono ?_
 rintro e w9 ⟨he, hb9⟩
 rw [HC0.out] at he
 subst he
 clear HCH d0 d1 d2 d3 d4 dl
 have hk1 := HK1'.out.below hb9
 have d0 := hk1.bk.cell 0
 have d1 := hk1.bk.cell 1
 have d2 := hk1.bk.cell 2
 have d3 := hk1.bk.cell 3
 have d4 := hk1.bk.cell 4
 have dl := hk1.bk.lt
 simp [KA.cells] at d0 d1 d2 d3 d4
 have hfit := hk1.krn.fits
 have HCP : Hid (Calls Tryd.prog 18 #[.agg #[.slice ak.a0 k.mods.length ak.c0, .slice ak.a1 k.mem.length ak.c1, .slice ak.a2 k.nodes.length ak.c2, .slice ak.a3 k.pipes.length ak.c3, .slice ak.a4 k.procs.length ak.c4]] w9 (CopyPost k w9)) := Copy_own k ak w9 hk1.krn
 have HB9 := Lib.hid hb9
 have HK1'' := Lib.hid hk1
 clear hb9 hk1
 go_wp2_with fail
 refine HCP.out.mono ?_
 rintro e w10 ⟨V0, V1, V2, V3, V4, ms, es, rfl, hC, hb10⟩
 obtain ⟨a3, ea, hk3⟩ := hC.krn hfit
 simp [KA.cells] at ea
 obtain ⟨rfl, rfl, rfl, rfl, rfl⟩ := ea
 have HB10 := Lib.hid hb10
 have hbX := HB5.out.trans ((HB8.out.trans ((HB9.out.trans (hb10.mono HB9.out.size)).mono HB8.out.size)).mono HB5.out.size)
 have HCH : Hid (Calls Tryd.prog 17 #[.agg #[.slice a3.a0 k.mods.length a3.c0, .slice a3.a1 k.mem.length a3.c1, .slice a3.a2 k.nodes.length a3.c2, .slice a3.a3 k.pipes.length a3.c3, .slice a3.a4 k.procs.length a3.c4]] w10 fun e w' => e = .returned (.int .i64 (kcheck k)) ∧ Below w10.heap.size w10 w') :=
  KCheck_any k a3 w10 hk3 HKK.out.small hC.caps (HT.out.below hbX)
 clear hC hb10 hk3 hbX HCP d0 d1 d2 d3 d4 dl hfit
 go_wp2_with fail
 refine HCH.out.mono ?_
 rintro e w11 ⟨he, hb11⟩
 rw [HC0.out] at he
 subst he
 have hb12 := HB8.out.trans ((HB9.out.trans ((HB10.out.trans (hb11.mono HB10.out.size)).mono HB9.out.size)).mono HB8.out.size)
 clear hb11 HCH HB8 HB9 HB10 HK1' HK1'' HK2'
 have hk1 := HK1.out.below hb12
 have hk2 := HK2.out.below hb12
 obtain ⟨y0, y1, y2, y3, y4, hbx⟩ := HY.out
 have y0 := (hb12.cell (p := ⟨bx, n * 3, none⟩) hbx).trans y0
 have y1 := (hb12.cell (p := ⟨bx, (n + 1) * 3, none⟩) hbx).trans y1
 have y2 := (hb12.cell (p := ⟨bx, (n + 2) * 3, none⟩) hbx).trans y2
 have y3 := (hb12.cell (p := ⟨bx, (n + 3) * 3, none⟩) hbx).trans y3
 have y4 := (hb12.cell (p := ⟨bx, (n + 4) * 3, none⟩) hbx).trans y4
 have hxl := Nat.lt_of_lt_of_le hbx hb12.size
 have d1 := hk1.bk.cell 1
 have d2 := hk1.bk.cell 2
 have d3 := hk1.bk.cell 3
 have dl := hk1.bk.lt
 have f1 := hk2.bk.cell 1
 have f2 := hk2.bk.cell 2
 have f3 := hk2.bk.cell 3
 have fl := hk2.bk.lt
 simp [KA.cells] at d1 d2 d3 f1 f2 f3
 have HBZ := Lib.hid (HB5.out.trans (hb12.mono HB5.out.size))
 have HR1 := Lib.hid hk1.krn
 have HR2 := Lib.hid hk2.krn
 have e1 : ((n : Int) + 1).toNat = n + 1 := by omega
 have e2 : ((n : Int) + 2).toNat = n + 2 := by omega
 have e3 : ((n : Int) + 3).toNat = n + 3 := by omega
 have e4 : ((n : Int) + 4).toNat = n + 4 := by omega
 clear hb12 hk1 hk2 hbx HK1 HK2 HY HB5
 have E1 : Hid (∀ W : World, Below w11.heap.size w11 W → Calls Tryd.prog 19 #[.slice ak.a2 k.nodes.length ak.c2, .slice ak2.a2 k.nodes.length ak2.c2] W fun e w' => e = .returned (.bool true) ∧ Below w11.heap.size w11 w') := fun W hW =>
  (Equal_nod _ _ _ _ _ W ((HR1.out.below hW).nodes.more hW.size) ((HR2.out.below hW).nodes.more hW.size) (by rw [HKK.out.l2]; unfold maxLen; omega)).mono fun e w' h => ⟨h.1, by obtain ⟨m, rfl⟩ := h.2; exact Below.drewN' hW m⟩
 have E2 : Hid (∀ W : World, Below w11.heap.size w11 W → Calls Tryd.prog 20 #[.slice ak.a3 k.pipes.length ak.c3, .slice ak2.a3 k.pipes.length ak2.c3] W fun e w' => e = .returned (.bool true) ∧ Below w11.heap.size w11 w') := fun W hW =>
  (Equal_str _ _ _ _ _ W ((HR1.out.below hW).pipes.more hW.size) ((HR2.out.below hW).pipes.more hW.size) (by rw [HKK.out.l3]; unfold maxLen; omega)).mono fun e w' h => ⟨h.1, by obtain ⟨m, rfl⟩ := h.2; exact Below.drewN' hW m⟩
 have E3 : Hid (∀ W : World, Below w11.heap.size w11 W → Calls Tryd.prog 21 #[.slice ak.a1 k.mem.length ak.c1, .slice ak2.a1 k.mem.length ak2.c1] W fun e w' => e = .returned (.bool true) ∧ Below w11.heap.size w11 w') := fun W hW =>
  (Equal_int _ _ _ _ _ W ((HR1.out.below hW).mem.more hW.size) ((HR2.out.below hW).mem.more hW.size) (by rw [HKK.out.l1]; unfold maxLen; omega)).mono fun e w' h => ⟨h.1, by obtain ⟨m, rfl⟩ := h.2; exact Below.drewN' hW m⟩
 clear HR1 HR2
 go_wp2_with fail
 refine (E1.out w11 (Below.refl _ _)).mono ?_
 rintro e w12 ⟨rfl, hb12⟩
 have d3 := (hb12.cell (p := ⟨w3.heap.size, 3, none⟩) dl).trans d3
 have f3 := (hb12.cell (p := ⟨w4.heap.size, 3, none⟩) fl).trans f3
 have dl2 := Nat.lt_of_lt_of_le dl hb12.size
 have fl2 := Nat.lt_of_lt_of_le fl hb12.size
 have HB12 := Lib.hid hb12
 clear hb12 y0 y1 y2 y3 y4 d2 f2
 go_wp2_with fail
 refine (E2.out w12 HB12.out).mono ?_
 rintro e w13 ⟨rfl, hb13⟩
 have d1 := (hb13.cell (p := ⟨w3.heap.size, 1, none⟩) dl).trans d1
 have f1 := (hb13.cell (p := ⟨w4.heap.size, 1, none⟩) fl).trans f1
 have dl3 := Nat.lt_of_lt_of_le dl hb13.size
 have fl3 := Nat.lt_of_lt_of_le fl hb13.size
 have HB13 := Lib.hid hb13
 clear hb13 d3 f3 dl2 fl2
 go_wp2_with fail
 refine (E3.out w13 HB13.out).mono ?_
 rintro e w14 ⟨rfl, hb14⟩
 have HB14 := Lib.hid (HBZ.out.trans (hb14.mono HBZ.out.size))
 clear hb14
 go_wp2_with fail
 go_ret
 exact ⟨by first | rfl | (simp; done), HB14.out⟩
end Go.Proofs.YtdjamdbamkhblacDoor
namespace Go.Proofs.YtdjamdbamkhblacDoor
open Go.RowKit
def touchMc (s : Mc) (i : Ins) : Mc :=
 if rg s i.b < s.mem.length then (if i.op = 8 then { s with regs := s.regs.set i.a.toNat (s.mem.getD (rg s i.b) 0) } else { s with mem := s.mem.set (rg s i.b) (rg s i.a) }) else s
def TouchPost (w0 : World) (g : Nat) (C : Value) (s : Mc) (i : Ins) (en : Nat) (B T M : Value) (e : Ending) (w' : World) : Prop :=
 ∃ z : Int, Hid (z = if rg s i.b < s.mem.length then 0 else 3) ∧ e = .returned (.int .i64 z) ∧ Mach w0 w' g C (touchMc s i) en B T M
set_option maxHeartbeats 4000000 in
theorem touch_any (w0 : World) (g en : Nat) (C B T M : Value) (s : Mc) (i : Ins) (w : World) (h : Mach w0 w g C s en B T M) (hs : McOk s) (hi : InsOk i) (ho : i.op = 8 ∨ i.op = 9) (hml : s.mem.length ≤ 1024) :
  Calls Tryd.prog 181 #[.pointer (some ⟨g, 0, none⟩), i.val] w (TouchPost w0 g C s i en B T M) := by
 obtain ⟨o1, o2, a0, a7, b0, b7, c0, cw, c7⟩ := hi
 obtain ⟨o, a, b, c⟩ := i
 simp only at o1 o2 a0 a7 b0 b7 c0 cw c7 ho ⊢
 unfold Ins.val
 simp only
 obtain ⟨bn, rfl⟩ : ∃ n : Nat, b = (n : Int) := ⟨b.toNat, by omega⟩
 obtain ⟨an, rfl⟩ : ∃ n : Nat, a = (n : Int) := ⟨a.toNat, by omega⟩
 have hr8 := hs.regs
 have hbn : (bn : Int) < 8 := by omega
 have han : (an : Int) < 8 := by omega
 have e1 := (h.blk.cell (4 + bn)).trans (mc_reg bn (by omega))
 have e2 := (h.blk.cell (4 + an)).trans (mc_reg an (by omega))
 have e3 := h.blk.cell 13
 have hg := h.blk.lt
 have hg1 : g < w.heap.size + 1 := by omega
 have fz := h.blk.frozen (4 + an)
 obtain ⟨A3, k3, hM⟩ := own_slice h.om
 have hX : Hid (rg s (bn : Int) = s.regs.getD bn 0) := rfl
 have hY : Hid (rg s (an : Int) = s.regs.getD an 0) := rfl
 subst hM
 simp [mcCells] at e3
 unfold natV at e1 e2
 obtain ⟨x, hx⟩ : ∃ x, s.regs.getD bn 0 = x := ⟨_, rfl⟩
 obtain ⟨y, hy⟩ : ∃ y, s.regs.getD an 0 = y := ⟨_, rfl⟩
 rw [hx] at e1
 rw [hy] at e2
 have HX := Lib.hid hx
 have HY := Lib.hid hy
 clear hx hy
 have H := Lib.hid h
 clear h
 have hwg : w.heap.size ≠ g := by omega
 have hwg' : g ≠ w.heap.size := by omega
 by_cases hlt : x < s.mem.length
 ·obtain ⟨q, cap, hv, hq, hql⟩ := H.out.om.form (by omega)
  injection hv with hv1 hv2 hv3
  subst hv1 hv3
  clear hv2
  have e4 := H.out.om.cells (g := q) rfl x _ (natsV_at hlt)
  rw [add_plain, Nat.zero_add] at e4
  unfold natV at e4
  have hgq : g ≠ q := fun e => own_blk_ne H.out.om H.out.blk (by decide) (by rw [e]; rfl)
  have hqg : q ≠ g := Ne.symm hgq
  have hq1 : q < w.heap.size + 1 := by omega
  have hwq : w.heap.size ≠ q := by omega
  have hwq' : q ≠ w.heap.size := by omega
  obtain ⟨v, hvv⟩ : ∃ v, s.mem.getD x 0 = v := ⟨_, rfl⟩
  rw [hvv] at e4
  have HV := Lib.hid hvv
  clear hvv
  have HE : Hid ((if rg s (bn : Int) < s.mem.length then (0 : Int) else 3) = 0) := if_pos (by rw [hX.out, HX.out]; exact hlt)
  have fq : w.frozen? ⟨q, x, none⟩ = false := by
   rcases H.out.om.2 with ⟨h0, _⟩ | ⟨g', cap', cur, hv, _, hh, _⟩
   ·cases h0
   ·injection hv with e1
    injection e1 with e1
    injection e1 with e1
    subst e1
    exact Blk.frozen (t := 3) (cs := cur) hh x
  rcases ho with rfl | rfl
  ·have HT : Hid (touchMc s ⟨8, (an : Int), (bn : Int), c⟩ = { s with regs := s.regs.set an v }) := by
    show _ = _
    unfold touchMc
    simp only
    rw [hX.out, HX.out, if_pos hlt, HV.out]
    rfl
   go_enter Tryd.func181, Tryd.ntmps181
   go_wp2
   go_quiet (fail)
   go_wp2
   go_region_law (first | fail)
   all_goals
    go_wp2
    go_ret
    exact ⟨_, HE.out.symm, rfl, by rw [HT.out]; exact (H.out.later (Below.drewN' ((Below.refl w.heap.size w).alloc (Nat.le_refl _) _) _)).setreg hr8 an (by omega) _⟩
  ·have HT : Hid (touchMc s ⟨9, (an : Int), (bn : Int), c⟩ = { s with mem := s.mem.set x y }) := by
    show _ = _
    unfold touchMc
    simp only
    rw [hX.out, HX.out, if_pos hlt, hY.out, HY.out]
    rfl
   go_enter Tryd.func181, Tryd.ntmps181
   go_wp2
   go_quiet (fail)
   go_wp2
   go_region_law (first | fail)
   all_goals
    go_wp2
    go_ret
    exact ⟨_, HE.out.symm, rfl, by rw [HT.out]; exact (H.out.later (Below.drewN' ((Below.refl w.heap.size w).alloc (Nat.le_refl _) _) _)).setmem rfl x y⟩
 ·have hge : s.mem.length ≤ x := by omega
  have HE : Hid ((if rg s (bn : Int) < s.mem.length then (0 : Int) else 3) = 3) := if_neg (by rw [hX.out, HX.out]; exact hlt)
  have HT : Hid (touchMc s ⟨o, (an : Int), (bn : Int), c⟩ = s) := by
   show _ = _
   unfold touchMc
   simp only
   rw [hX.out, HX.out, if_neg hlt]
  clear hlt
  go_enter Tryd.func181, Tryd.ntmps181
  go_wp2
  go_quiet (fail)
  go_wp2
  go_ret
  exact ⟨_, HE.out.symm, rfl, by rw [HT.out]; exact H.out.later (Below.drewN' ((Below.refl w.heap.size w).alloc (Nat.le_refl _) _) _)⟩
end Go.Proofs.YtdjamdbamkhblacDoor
