/- The walk of keep.PipesFlow. No condition. -/
import Derived.Test.YtdjamdbamkhblacDoorRowA
import Derived.Test.YtdjamdbamkhblacDoorPipesP
namespace Go.Proofs.YtdjamdbamkhblacDoor
open Go.RowKit
set_option linter.unusedVariables false
set_option linter.unusedSimpArgs false
def pipeI (r : Ins) : Akt := if pick r.op 2 = 0 then ⟨8, 0, 1, 0, noS, dataS r.a r.b⟩ else ⟨7, 0, 0, ((1 + pick r.a 25 : Nat) : Int), noS, noS⟩
def pipeP (l : List Ins) (k : Nat) : List Akt := ⟨9, 0, 0, 0, noS, noS⟩ :: (l.take k).map pipeI
theorem pipeP_len (l : List Ins) (k : Nat) (h : k ≤ l.length) : (pipeP l k).length = k + 1 := by simp [pipeP]; omega
theorem pipeP_succ (l : List Ins) (k : Nat) (h : k < l.length) : pipeP l (k + 1) = pipeP l k ++ [pipeI l[k]] := by
  unfold pipeP
  rw [List.take_succ_eq_append_getElem h, List.map_append]
  rfl
theorem pipeI_ok (r : Ins) : pipeAct (pipeI r) := by
  have h := dataS_le r.a r.b
  have h2 := pick_lt r.a (m := 25) (by omega)
  unfold pipeI
  split
  · exact .inl ⟨_, rfl, h.1, h.2⟩
  · exact .inr ⟨_, rfl, by omega, by omega⟩
theorem RdA.pre {w : World} {B : Nat} {A : Option Addr} {l r : List Akt} (h : RdA w B A (l ++ r)) : RdA w B A l := fun hl => by
  obtain ⟨b, o, e, hb, hc⟩ := h (by rw [List.length_append]; omega)
  refine ⟨b, o, e, hb, fun k hk => ?_⟩
  have := hc k (by rw [List.length_append]; omega)
  rw [List.getElem_append_left hk] at this
  exact this
theorem str_app (a b : ByteArray) : a ++ b = appT a b := by
  apply ByteArray.ext
  rw [ByteArray.data_append]
  unfold appT
  apply Array.ext'
  simp
theorem drop_zip {α β : Type} (l : List α) (m : List β) (j : Nat) (h1 : j < l.length) (h2 : j < m.length) : (l.zip m).drop j = (l[j], m[j]) :: (l.zip m).drop (j + 1) := by
  rw [List.drop_eq_getElem_cons (by rw [List.length_zip]; omega), List.getElem_zip]
set_option maxRecDepth 100000 in
set_option maxHeartbeats 2000000 in
theorem PipesFlow_any (HRC : RunC 156) (A : Option Addr) (c : Nat) (l : List Ins) (w : World) (hr : RdI w w.heap.size A l) (hwf : ∀ i ∈ l, i.wf) (hl : l.length ≤ maxLen) (ht : Tab w) :
    Calls Tryd.prog 4 #[.slice A l.length c] w fun e w' => e = .returned (.bool true) ∧ Below w.heap.size w w' := by
  have HRD := Lib.hid hr
  have HWF := Lib.hid hwf
  have HT := Lib.hid ht
  have hl' : (l.length : Int) ≤ 9223372036854775807 := by unfold maxLen at hl; omega
  have HA0 := Lib.hid (RowA.lit (Below.refl w.heap.size w) (l := [⟨9, 0, 0, 0, noS, noS⟩]) (cs := #[.int .i64 9, .int .i64 0, .int .i64 0, .int .i64 0, .string ⟨#[]⟩, .string ⟨#[]⟩]) rfl (by simp))
  clear hr hwf hl ht
  go_enter Tryd.func4, Tryd.ntmps4
  go_upto_region 2 with fail
  refine (show ∀ W : World, RowA w W (some ⟨w.heap.size, 0, none⟩) 1 [⟨9, 0, 0, 0, noS, noS⟩] → Code.wp _ _ _ _ W from ?_) _ HA0.out
  clear HA0
  intro W0 h0
  have HA0 := Lib.hid h0
  clear h0
  go_wp2_with fail
  go_loopw [3, 4] (fun V i wr => Cnt (min l.length 30) i fun k => ∃ A c, V = .slice A (k + 1) c ∧ RowA w wr A c (pipeP l k)) (fun _ i _ => min l.length 30 - (intOf i).toNat)
  case atStart => exact ⟨0, Nat.zero_le _, rfl, _, _, rfl, HA0.out⟩
  case round =>
    obtain ⟨k, hk, rfl, A1, c1, rfl, h1⟩ := hrel
    by_cases hlt : k < min l.length 30
    · have hkl : k < l.length := by omega
      have t1 : (k : Int) < (l.length : Int) := by omega
      have t2 : (k : Int) < 30 := by omega
      obtain ⟨b, o, rfl, hb, hcell⟩ := HRD.out (by omega)
      obtain ⟨c0, c1', c2, c3⟩ := hcell k hkl
      obtain ⟨r, hr⟩ : ∃ r, r = l[k] := ⟨_, rfl⟩
      have hrw : r.wf := by rw [hr]; exact HWF.out _ (List.getElem_mem hkl)
      have hsu := pipeP_succ l k hkl
      have hpl := pipeP_len l k (by omega)
      rw [← hr] at c0 c1' c2 c3 hsu
      have hbw := Nat.lt_of_lt_of_le hb h1.be.size
      have c0 := (h1.be.cell (p := ⟨b, o + k * 4, none⟩) hb).trans c0
      have c1' := (h1.be.cell (p := ⟨b, o + k * 4 + 1, none⟩) hb).trans c1'
      have c2 := (h1.be.cell (p := ⟨b, o + k * 4 + 2, none⟩) hb).trans c2
      have c3 := (h1.be.cell (p := ⟨b, o + k * 4 + 3, none⟩) hb).trans c3
      obtain ⟨p, hp⟩ : ∃ p, p = pick r.op 2 := ⟨_, rfl⟩
      obtain ⟨q, hq⟩ : ∃ q, q = pick r.a 25 := ⟨_, rfl⟩
      have hq25 : q < 25 := by rw [hq]; exact pick_lt _ (by omega)
      have PA : Hid (∀ W : World, Calls Tryd.prog 13 #[.int .i64 r.op, .int .i64 2] W fun e w' => e = .returned (.int .i64 (p : Nat)) ∧ W = w') := fun W => by rw [hp]; exact picked_any r.op 2 W hrw.1.1 hrw.1.2 (by omega) (by omega)
      have PB : Hid (∀ W : World, Calls Tryd.prog 13 #[.int .i64 r.a, .int .i64 25] W fun e w' => e = .returned (.int .i64 (q : Nat)) ∧ W = w') := fun W => by rw [hq]; exact picked_any r.a 25 W hrw.2.1.1 hrw.2.1.2 (by omega) (by omega)
      have CD : Hid (∀ W : World, Calls Tryd.prog 12 #[.agg #[.int .i64 r.op, .int .i64 r.a, .int .i64 r.b, .int .i64 r.c]] W fun e w' => e = .returned (.string (dataS r.a r.b)) ∧ Below W.heap.size W w') := fun W => KData_any r hrw W
      have HSU := Lib.hid hsu
      have HPI : Hid (pipeI r = if p = 0 then ⟨8, 0, 1, 0, noS, dataS r.a r.b⟩ else ⟨7, 0, 0, 1 + (q : Int), noS, noS⟩) := by show _ = _; unfold pipeI; rw [← hp, ← hq]; rfl
      have HPL := Lib.hid hpl
      have H1 := Lib.hid h1
      obtain ⟨L, hL⟩ : ∃ L, L = pipeP l k := ⟨_, rfl⟩
      rw [← hL] at H1 HPL HSU
      clear hsu hpl h1 hr hp hq hrw hcell hL hb
      by_cases hp0 : p = 0
      · subst hp0
        rw [if_pos rfl] at HPI
        have hpd := HPI.out
        rw [hpd] at HSU
        clear HPI hpd
        go_wp2_with fail
        refine (PA.out _).mono ?_
        rintro e w' ⟨rfl, rfl⟩
        go_wp2_with fail
        refine (CD.out _).mono ?_
        rintro e w2 ⟨rfl, hb2⟩
        have H2 := Lib.hid (H1.out.below hb2)
        clear hb2 PA PB CD c0 c1' c2 c3 hbw H1
        go_wp2_with (at_builtin; (refine wp_app (l := L) [⟨8, 0, 1, 0, noS, dataS r.a r.b⟩] H2.out rfl (.tmp 34) (.tmp 41) rfl ?vs rfl rfl rfl ?len ?_); (case vs => (show Value.slice _ (k + 1) _ = _; rw [HPL.out])); (case len => (rw [HPL.out]; simp; omega)); intro A2 c2 W3 h2)
        refine ⟨⟨k + 1, by omega, by go_num, A2, c2, by simp [HPL.out], by rw [HSU.out]; exact h2⟩, by simp [intOf]; omega⟩
      · rw [if_neg hp0] at HPI
        have hpd := HPI.out
        rw [hpd] at HSU
        have hp1 : ¬ (p : Int) = 0 := by omega
        clear HPI hpd
        go_wp2_with fail
        refine (PA.out _).mono ?_
        rintro e w' ⟨rfl, rfl⟩
        go_wp2_with fail
        refine (PB.out _).mono ?_
        rintro e w' ⟨rfl, rfl⟩
        clear PA PB CD c0 c1' c2 c3 hbw
        go_wp2_with (at_builtin; (refine wp_app (l := L) [⟨7, 0, 0, 1 + (q : Int), noS, noS⟩] H1.out rfl (.tmp 43) (.tmp 52) rfl ?vs rfl rfl rfl ?len ?_); (case vs => (show Value.slice _ (k + 1) _ = _; rw [HPL.out])); (case len => (rw [HPL.out]; simp; omega)); intro A2 c2 W3 h2)
        refine ⟨⟨k + 1, by omega, by go_num, A2, c2, by simp [HPL.out], by rw [HSU.out]; exact h2⟩, by simp [intOf]; omega⟩
    · have hk9 : k = min l.length 30 := by omega
      have hk30 : k ≤ 30 := by omega
      have hkl : k ≤ l.length := by omega
      have HC : (¬ (k : Int) < (l.length : Int)) ∨ ((k : Int) < (l.length : Int) ∧ ¬ (k : Int) < 30) := by omega
      have hpl := pipeP_len l k hkl
      have HPF := Lib.hid (pipes_flow ((l.take k).map pipeI) (fun a ha => by obtain ⟨r, _, rfl⟩ := List.mem_map.1 ha; exact pipeI_ok r))
      have HOK : Hid (∀ a ∈ pipeP l k, a.name.size ≤ maxLen ∧ a.data.size ≤ maxLen) := fun a ha => by
        have h0 : noS.size ≤ maxLen := by decide
        rcases List.mem_cons.1 ha with rfl | ha
        · exact ⟨h0, h0⟩
        · obtain ⟨r, _, rfl⟩ := List.mem_map.1 ha
          rcases pipeI_ok r with ⟨s, e, _, h2⟩ | ⟨m, e, _⟩
          · rw [e]; exact ⟨h0, by show s.size ≤ maxLen; unfold maxLen; omega⟩
          · rw [e]; exact ⟨h0, h0⟩
      obtain ⟨L, hL⟩ : ∃ L, L = pipeP l k := ⟨_, rfl⟩
      have HLL := Lib.hid hL
      rw [← hL] at h1 hpl HOK
      have HPL := Lib.hid hpl
      have H1 := Lib.hid h1
      clear h1 hpl hL hk hlt hk9
      rcases HC with t1 | ⟨t1, t2⟩
      all_goals
        have LASTS := Lib.hid (show ((⟨6, 0, 1, 0, noS, noS⟩ : Akt) :: [⟨7, 0, 0, 100, noS, noS⟩, ⟨7, 0, 0, 1, noS, noS⟩]).length = 3 from rfl)
        go_upto_region 10 with (at_builtin; (refine wp_app (l := L) [⟨6, 0, 1, 0, noS, noS⟩, ⟨7, 0, 0, 100, noS, noS⟩, ⟨7, 0, 0, 1, noS, noS⟩] H1.out rfl (.tmp 56) (.tmp 60) rfl ?vs rfl rfl rfl ?len ?_); (case vs => (show Value.slice _ (k + 1) _ = _; rw [HPL.out])); (case len => (rw [HPL.out]; simp; omega)); intro A4 c4 W6 h4; obtain ⟨la4, hl4⟩ : ∃ l, l = L ++ [⟨6, 0, 1, 0, noS, noS⟩, ⟨7, 0, 0, 100, noS, noS⟩, ⟨7, 0, 0, 1, noS, noS⟩] := ⟨_, rfl⟩; rw [← hl4] at h4 ⊢; have HE4 : Hid (la4.length = k + 4) := (by show _ = _; rw [hl4, List.length_append, HPL.out]; rfl); have HL4 := Lib.hid hl4; have HA4 := Lib.hid h4; clear h4 hl4 H1)
        have HAO : Hid (ActsOk la4) := fun y hy => by
          have h0 : noS.size ≤ maxLen := by decide
          rw [HL4.out] at hy
          rcases List.mem_append.1 hy with hy | hy
          · exact HOK.out y hy
          · simp only [List.mem_cons, List.not_mem_nil, or_false] at hy
            rcases hy with rfl | rfl | rfl <;> exact ⟨h0, h0⟩
        have hba := (Below.refl W6.heap.size W6).alloc (Nat.le_refl _) (.cells #[.slice A4 la4.length c4] 27)
        have HBA := Lib.hid (HA4.out.be.trans (hba.mono HA4.out.be.size))
        have HAB := Lib.hid (HA4.out.below hba)
        have HRAN : Hid (Calls Tryd.prog 14 #[.slice (some ⟨W6.heap.size, 0, none⟩) 1 1] (W6.alloc (.cells #[.slice A4 la4.length c4] 27)) (RanPost (W6.alloc (.cells #[.slice A4 la4.length c4] 27)) (runK newK la4))) :=
          Ran_any HRC W6.heap.size 1 [(A4, c4, la4)] la4 _ (Sls.one HA4.out) (by simp) (by simp [flatS]) (by have := HE4.out; omega) HAO.out (HT.out.below HBA.out)
        obtain ⟨xs, y, z, s, hxs, hxl, hfl⟩ := HPF.out
        have hpl4 : la4 = ⟨9, 0, 0, 0, noS, noS⟩ :: (l.take k).map pipeI ++ [⟨6, 0, 1, 0, noS, noS⟩, ⟨7, 0, 0, (100 : Nat), noS, noS⟩, ⟨7, 0, 0, (1 : Nat), noS, noS⟩] := by rw [HL4.out, HLL.out]; rfl
        rw [← hpl4] at hxs
        have hxk : xs.length = k + 1 := by rw [hxl]; simp; omega
        obtain ⟨LA, hLA⟩ : ∃ LA, LA = L ++ [⟨6, 0, 1, 0, noS, noS⟩, ⟨7, 0, 0, 100, noS, noS⟩] := ⟨_, rfl⟩
        obtain ⟨LX, hLX⟩ : ∃ LX, LX = xs ++ [y, z] := ⟨_, rfl⟩
        have hfl2 : flowB (LA.zip LX) noS noS = some (s, s) := by rw [hLA, hLX, HLL.out]; exact hfl
        have hla4 : la4 = LA ++ [⟨7, 0, 0, 1, noS, noS⟩] := by rw [HL4.out, hLA]; simp
        have HZ := Lib.hid hfl2
        have HLX : Hid ((runK newK la4).2 = LX ++ [ansE 12]) := by show _ = _; rw [hxs, hLX]; simp
        have HLAn : Hid (LA.length = k + 3) := by show _ = _; rw [hLA, List.length_append, HPL.out]; rfl
        have HLXn : Hid (LX.length = k + 3) := by show _ = _; rw [hLX, List.length_append, hxk]; rfl
        have HLA4 := Lib.hid hla4
        have hc4 : k + 4 ≤ c4 := by have := (own_len HA4.out.own).2; rw [HE4.out] at this; exact this
        have HC4 := Lib.hid hc4
        clear HPF hxs hxl hfl hpl4 hxk hLA hLX hfl2 hla4 HAO HLL hba hc4
        go_wp2_with fail
        refine HRAN.out.mono ?_
        rintro e w3 ⟨AA, cA, ak, rfl, hO, hK, hcp, hb3⟩
        have HBF := Lib.hid (HBA.out.trans (hb3.mono HBA.out.size))
        have HRA := Lib.hid (RdA.pre (l := LA) (r := [⟨7, 0, 0, 1, noS, noS⟩]) (by rw [← HLA4.out]; exact RdA.of (Rd.of_own (HAB.out.below hb3).own)))
        obtain ⟨⟨kk, la⟩, hr⟩ : ∃ r, r = runK newK la4 := ⟨_, rfl⟩
        have hlx := HLX.out
        rw [← hr] at hO hlx
        rw [← hr]
        simp only at hO hlx
        have hln : la.length = k + 4 := by rw [hlx, List.length_append, HLXn.out]; rfl
        obtain ⟨bx, rfl, hbx, hcx⟩ := RunKPost.at_ hO (by omega)
        simp only
        rw [hln, HE4.out]
        have hcx' : ∀ q (hq : q < LX.length), w3.cell? ⟨bx, q * 3, none⟩ = some (.int .i64 LX[q].code) ∧ w3.cell? ⟨bx, q * 3 + 1, none⟩ = some (.int .i64 LX[q].n) ∧ w3.cell? ⟨bx, q * 3 + 2, none⟩ = some (.string LX[q].data) := fun q hq => by
          have h := hcx q (by rw [hlx, List.length_append]; omega)
          simp only [hlx, List.getElem_append_left hq] at h
          exact h
        have hcz : w3.cell? ⟨bx, (k + 3) * 3, none⟩ = some (.int .i64 12) := by
          have h := (hcx (k + 3) (by omega)).1
          simp only [hlx] at h
          rw [List.getElem_append_right (by rw [HLXn.out]; exact Nat.le_refl _)] at h
          simp [HLXn.out, ansE] at h
          exact h
        obtain ⟨bA, oA, rfl, hbA, hcA⟩ := HRA.out (by rw [HLAn.out]; omega)
        have HFX := Lib.hid (And.intro hcx' (And.intro hcz hbx))
        have HFA := Lib.hid (And.intro hcA hbA)
        clear hO hK hcp hb3 hr hlx hln hcx hcx' hcz hcA hbx hbA HRAN HBA HA4 HAB HRA HLX HLA4 HL4 HOK HT LASTS
        unfold KA.cells
        go_upto_region 13 with fail
        have hone := Below.one w3 (.cells #[.slice ak.a0 kk.mods.length ak.c0, .slice ak.a1 kk.mem.length ak.c1, .slice ak.a2 kk.nodes.length ak.c2, .slice ak.a3 kk.pipes.length ak.c3, .slice ak.a4 kk.procs.length ak.c4] 36)
        refine (show ∀ W : World, (∀ q (hq : q < LX.length), W.cell? ⟨bx, q * 3, none⟩ = some (.int .i64 LX[q].code) ∧ W.cell? ⟨bx, q * 3 + 1, none⟩ = some (.int .i64 LX[q].n) ∧ W.cell? ⟨bx, q * 3 + 2, none⟩ = some (.string LX[q].data)) ∧ W.cell? ⟨bx, (k + 3) * 3, none⟩ = some (.int .i64 12) ∧ bx < W.heap.size →
          (∀ q (hq : q < LA.length), W.cell? ⟨bA, oA + q * 6, none⟩ = some (.int .i64 LA[q].kind) ∧ W.cell? ⟨bA, oA + q * 6 + 1, none⟩ = some (.int .i64 LA[q].p) ∧ W.cell? ⟨bA, oA + q * 6 + 2, none⟩ = some (.int .i64 LA[q].n) ∧ W.cell? ⟨bA, oA + q * 6 + 3, none⟩ = some (.int .i64 LA[q].m) ∧ W.cell? ⟨bA, oA + q * 6 + 4, none⟩ = some (.string LA[q].name) ∧ W.cell? ⟨bA, oA + q * 6 + 5, none⟩ = some (.string LA[q].data)) ∧ bA < W.heap.size → Below w.heap.size w W → Code.wp _ _ _ _ W from ?_) _
          ⟨fun q hq => by obtain ⟨h1, h2, h3⟩ := HFX.out.1 q hq; exact ⟨(hone.cell (p := ⟨bx, q * 3, none⟩) HFX.out.2.2).trans h1, (hone.cell (p := ⟨bx, q * 3 + 1, none⟩) HFX.out.2.2).trans h2, (hone.cell (p := ⟨bx, q * 3 + 2, none⟩) HFX.out.2.2).trans h3⟩, (hone.cell (p := ⟨bx, (k + 3) * 3, none⟩) HFX.out.2.2).trans HFX.out.2.1, Nat.lt_of_lt_of_le HFX.out.2.2 hone.size⟩
          ⟨fun q hq => by obtain ⟨h1, h2, h3, h4, h5, h6⟩ := HFA.out.1 q hq; exact ⟨(hone.cell (p := ⟨bA, oA + q * 6, none⟩) HFA.out.2).trans h1, (hone.cell (p := ⟨bA, oA + q * 6 + 1, none⟩) HFA.out.2).trans h2, (hone.cell (p := ⟨bA, oA + q * 6 + 2, none⟩) HFA.out.2).trans h3, (hone.cell (p := ⟨bA, oA + q * 6 + 3, none⟩) HFA.out.2).trans h4, (hone.cell (p := ⟨bA, oA + q * 6 + 4, none⟩) HFA.out.2).trans h5, (hone.cell (p := ⟨bA, oA + q * 6 + 5, none⟩) HFA.out.2).trans h6⟩, Nat.lt_of_lt_of_le HFA.out.2 hone.size⟩
          (HBF.out.trans (hone.mono HBF.out.size))
        clear HFX HFA HBF hone
        intro W9 hX hA hB
        have HFX := Lib.hid hX
        have HFA := Lib.hid hA
        have HB9 := Lib.hid hB
        clear hX hA hB
        have s1 : (k : Int) + 1 + 2 ≤ (c4 : Int) := by have := HC4.out; omega
        have e3 : ((k : Int) + 1 + 2).toNat = k + 3 := by omega
        have hk0 : 0 ≤ (k : Int) + 1 + 2 := by omega
        go_wp2_with fail
        go_loopw [9, 10, 76] (fun I O j wr => Cnt (k + 3) j fun q => ∃ i o, I = .string i ∧ O = .string o ∧ Below W9.heap.size W9 wr ∧ Hid (flowB ((LA.zip LX).drop q) i o = some (s, s)) ∧ i.size ≤ 100 * q ∧ o.size ≤ 100 * q) (fun _ _ j _ => k + 3 - (intOf j).toNat)
        case atStart => exact ⟨0, Nat.zero_le _, rfl, noS, noS, rfl, rfl, Below.refl _ _, HZ.out, by decide, by decide⟩
        case round =>
          obtain ⟨q, hq, rfl, i, o, rfl, rfl, hb, HF, hi, ho⟩ := hrel
          by_cases hlt : q < k + 3
          · have t3 : (q : Int) < (k : Int) + 1 + 2 := by omega
            have hqa : q < LA.length := by rw [HLAn.out]; exact hlt
            have hqx : q < LX.length := by rw [HLXn.out]; exact hlt
            obtain ⟨a0, a1, a2, a3, a4, a5⟩ := HFA.out.1 q hqa
            obtain ⟨x0, x1, x2⟩ := HFX.out.1 q hqx
            have hs := HF.out
            rw [drop_zip LA LX q hqa hqx] at hs
            obtain ⟨a, ha⟩ : ∃ a, a = LA[q] := ⟨_, rfl⟩
            obtain ⟨x, hx⟩ : ∃ x, x = LX[q] := ⟨_, rfl⟩
            rw [← ha] at a0 a1 a2 a3 a4 a5 hs
            rw [← hx] at x0 x1 x2 hs
            have HST := Lib.hid (flow_step hs)
            have a0 := (hb.cell (p := ⟨bA, oA + q * 6, none⟩) HFA.out.2).trans a0
            have a1 := (hb.cell (p := ⟨bA, oA + q * 6 + 1, none⟩) HFA.out.2).trans a1
            have a2 := (hb.cell (p := ⟨bA, oA + q * 6 + 2, none⟩) HFA.out.2).trans a2
            have a3 := (hb.cell (p := ⟨bA, oA + q * 6 + 3, none⟩) HFA.out.2).trans a3
            have a4 := (hb.cell (p := ⟨bA, oA + q * 6 + 4, none⟩) HFA.out.2).trans a4
            have a5 := (hb.cell (p := ⟨bA, oA + q * 6 + 5, none⟩) HFA.out.2).trans a5
            have al := Nat.lt_of_lt_of_le HFA.out.2 hb.size
            have hba := (Below.refl wr.heap.size wr).alloc (Nat.le_refl _) (.cells a.cells 26)
            have HB1 := Lib.hid (hb.trans (hba.mono hb.size))
            have HA := Lib.hid (Blk.new wr 26 a.cells)
            have HX := Lib.hid (And.intro x0 (And.intro x1 x2))
            have HIO := Lib.hid (show i.size ≤ 3300 ∧ o.size ≤ 3300 by omega)
            clear hs ha hx hqa hqx hb hba x0 x1 x2 HF
            go_upto_region 17 with fail
            refine (show ∀ W : World, Blk W wr.heap.size 26 a.cells → Below W9.heap.size W9 W → Code.wp _ _ _ _ W from ?_) _ HA.out HB1.out
            clear a0 a1 a2 a3 a4 a5 al HA HB1
            intro W1 hA hB1
            have b0 := hA.cell 0
            have b5 := hA.cell 5
            have bl := hA.lt
            simp [Akt.cells] at b0 b5
            obtain ⟨x0, x1, x2⟩ := HX.out
            have x0 := (hB1.cell (p := ⟨bx, q * 3, none⟩) HFX.out.2.2).trans x0
            have x1 := (hB1.cell (p := ⟨bx, q * 3 + 1, none⟩) HFX.out.2.2).trans x1
            have x2 := (hB1.cell (p := ⟨bx, q * 3 + 2, none⟩) HFX.out.2.2).trans x2
            have xl := Nat.lt_of_lt_of_le HFX.out.2.2 hB1.size
            have HB1 := Lib.hid hB1
            have i1 := HIO.out.1
            have o1 := HIO.out.2
            have t4 : (q : Int) < (k : Int) + 4 := by omega
            clear hA hB1 t3
            rcases HST.out with ⟨k8, hf, hc, hs⟩ | ⟨k8, hf, hc, n0, n1, n2, hs⟩ | ⟨k7, he, hc, hz, hs⟩ | ⟨k7, he, h13, h12, hz, hs⟩ | ⟨k8, k7, hs⟩
            · rw [k8] at b0
              rw [hc] at x0
              have HS := Lib.hid hs
              have f1 : (i.size : Int) - (o.size : Int) = 20 := by omega
              have f2 : ¬ (i.size : Int) = (o.size : Int) := by omega
              clear k8 hf hc hs HST
              go_wp2_with fail
              refine ⟨⟨q + 1, hlt, by go_num, i, o, rfl, rfl, HB1.out, HS, by omega, by omega⟩, by simp [intOf]; omega⟩
            · rw [k8] at b0
              rw [hc] at x0
              obtain ⟨n, hn⟩ : ∃ n : Nat, x.n = (n : Int) := ⟨x.n.toNat, by omega⟩
              rw [hn] at x1 n0 n1 n2 hs
              rw [Int.toNat_natCast, ← cut_ext, ← str_app] at hs
              have HS := Lib.hid hs
              have n3 : n ≤ a.data.size := by omega
              have hez : (a.data.extract 0 n).size = n := by rw [cut_ext, cutS_size _ _ _ n3]; omega
              have hap : (i ++ a.data.extract 0 n).size = i.size + n := by rw [str_app_size, hez]
              have HAP := Lib.hid (show (i ++ a.data.extract 0 n).size ≤ 100 * (q + 1) by omega)
              have hov : ¬ (9223372036854775807 < i.size + (a.data.extract 0 n).size) := by omega
              have f1 : ¬ (i.size : Int) - (o.size : Int) = 20 := by omega
              clear k8 hf hc hs HST hn hap hez
              go_upto_region 22 with fail
              go_quiet (fail)
              have HB2 := Lib.hid (Below.drewN' HB1.out nq)
              go_wp2_with fail
              refine ⟨⟨q + 1, hlt, by go_num, _, o, rfl, rfl, HB2.out, HS, HAP.out, by omega⟩, by simp [intOf]; omega⟩
            · rw [k7] at b0
              rw [← str_app] at hs
              have HS := Lib.hid hs
              have hap : (o ++ x.data).size = o.size + x.data.size := str_app_size _ _
              have HAP := Lib.hid (show (o ++ x.data).size ≤ 100 * (q + 1) by omega)
              have hov : ¬ (9223372036854775807 < o.size + x.data.size) := by omega
              have f1 : ¬ (i.size : Int) - (o.size : Int) = 20 := by omega
              have f2 : (i.size : Int) = (o.size : Int) := by omega
              clear k7 he hs HST hap
              rcases hc with hc | hc
              all_goals
                rw [hc] at x0
                clear hc
                go_wp2_with fail
                refine ⟨⟨q + 1, hlt, by go_num, i, _, rfl, rfl, HB1.out, HS, by omega, HAP.out⟩, by simp [intOf]; omega⟩
            · rw [k7] at b0
              rw [← str_app] at hs
              have HS := Lib.hid hs
              have hap : (o ++ x.data).size = o.size + x.data.size := str_app_size _ _
              have HAP := Lib.hid (show (o ++ x.data).size ≤ 100 * (q + 1) by omega)
              have hov : ¬ (9223372036854775807 < o.size + x.data.size) := by omega
              have f2 : ¬ (i.size : Int) = (o.size : Int) := by omega
              have g1 : (x.code == 13) = false := beq_eq_false_iff_ne.2 h13
              have g2 : (x.code == 12) = false := beq_eq_false_iff_ne.2 h12
              have g3 : ((i.size : Int) == (o.size : Int)) = false := beq_eq_false_iff_ne.2 f2
              clear k7 he hs HST hap
              by_cases hf : (i.size : Int) - (o.size : Int) = 20
              all_goals
                go_wp2_with fail
                refine ⟨⟨q + 1, hlt, by go_num, i, _, rfl, rfl, HB1.out, HS, by omega, HAP.out⟩, by simp [intOf]; omega⟩
            · have HS := Lib.hid hs
              clear hs HST
              by_cases hf : (i.size : Int) - (o.size : Int) = 20
              all_goals
                go_wp2_with fail
                refine ⟨⟨q + 1, hlt, by go_num, i, o, rfl, rfl, HB1.out, HS, by omega, by omega⟩, by simp [intOf]; omega⟩
          · have hq9 : q = k + 3 := by omega
            have t3 : ¬ (q : Int) < (k : Int) + 1 + 2 := by omega
            have hs := HF.out
            rw [List.drop_of_length_le (by rw [List.length_zip, HLAn.out, HLXn.out]; omega)] at hs
            unfold flowB at hs
            injection hs with hs
            injection hs with hs1 hs2
            rw [hs1, hs2]
            have hz := (hb.cell (p := ⟨bx, (k + 3) * 3, none⟩) HFX.out.2.2).trans HFX.out.2.1
            have hzl := Nat.lt_of_lt_of_le HFX.out.2.2 hb.size
            have HBX := Lib.hid (HB9.out.trans (hb.mono HB9.out.size))
            have s4 : (k : Int) + 1 + 2 < (k : Int) + 4 := by omega
            clear hb HF hs1 hs2 hlt hq hi ho
            go_wp2_with fail
            go_ret
            exact ⟨by first | rfl | (simp; done), HBX.out⟩
end Go.Proofs.YtdjamdbamkhblacDoor
