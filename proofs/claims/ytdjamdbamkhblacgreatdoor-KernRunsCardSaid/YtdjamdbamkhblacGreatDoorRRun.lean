/- The walk of the reference's script: its answers, and the kernel behind it. Condition: the listed table, the run's contract (RunC). By an AI agent (xrrun2.py). -/
import Derived.Test.YtdjamdbamkhblacGreatDoorG29
import Derived.Test.YtdjamdbamkhblacGreatDoorG31
import Derived.Test.YtdjamdbamkhblacGreatDoorRRunG
namespace Go.Proofs.YtdjamdbamkhblacGreatDoor
open Go.RowKit
set_option linter.unusedVariables false
set_option linter.unusedSimpArgs false
attribute [local go_sem] After.cell
/-- What DidOf answers, as three values. -/
def outR (k : Krn) (x : Akt) : Krn × Ans × Int := if doE k x = 0 then ((doK k x).1, (doK k x).2, 0) else (⟨[], [], [], [], []⟩, ⟨0, 0, ⟨#[]⟩⟩, doE k x)
theorem outR_out {k ko : Krn} {x : Akt} {y : Ans} {er : Int} (h : (ko, y, er) = outR k x) : er = doE k x ∧ (er = 0 → doK k x = (ko, y)) := by
  unfold outR at h
  split at h
  · cases h
    exact ⟨by omega, fun _ => rfl⟩
  · cases h
    exact ⟨rfl, fun e => absurd e (by assumption)⟩
theorem DoPost.has {w w' : World} {k : Krn} {x : Akt} {e : Ending} (h : DoPost w k x e w') :
    ∃ s : KA, e = .returned (.tuple #[.agg #[.slice s.a0 (outR k x).1.mods.length s.c0, .slice s.a1 (outR k x).1.mem.length s.c1, .slice s.a2 (outR k x).1.nodes.length s.c2, .slice s.a3 (outR k x).1.pipes.length s.c3, .slice s.a4 (outR k x).1.procs.length s.c4], .agg #[.int .i64 (outR k x).2.1.code, .int .i64 (outR k x).2.1.n, .string (outR k x).2.1.data], .int .i64 (outR k x).2.2]) ∧ Below w.heap.size w w' ∧ ((outR k x).2.2 = 0 → HasK w' s (outR k x).1) := by
  obtain ⟨hb, ⟨hne, rfl⟩ | ⟨he, a', ms, es, rfl, hC, hf⟩⟩ := h
  · refine ⟨⟨none, 0, none, 0, none, 0, none, 0, none, 0⟩, ?_, hb, ?_⟩
    · unfold outR
      rw [if_neg hne]
      rfl
    · unfold outR
      rw [if_neg hne]
      exact fun h => absurd h hne
  · refine ⟨a', ?_, hb, ?_⟩
    · unfold outR
      rw [if_pos he]
      rfl
    · unfold outR
      rw [if_pos he]
      exact fun _ => ⟨hf, _, _, _, hC⟩
set_option maxRecDepth 100000 in
set_option maxHeartbeats 4000000 in
theorem Script_any (HR : RunC 102) (A : Option Addr) (c : Nat) (l : List Akt) (w : World) (hr : RdA w w.heap.size A l) (hl : l.length ≤ 200) (hs : Sz5    l) (ht : Tab w) :
    Calls Tryz.prog 5 #[.slice A l.length c] w (RunKPost w (runK newK l)) := by
  have HR' := Lib.hid HR
  have HA := Lib.hid hr
  have HS := Lib.hid hs
  have HT := Lib.hid ht
  have q1 : decide ((200 : Int) < (l.length : Int)) = false := decide_eq_false (by omega)
  obtain ⟨i0, hi0, hz0, hz1, hz2⟩ := info_parts Pz5
  have hU := Tryz.underlying23
  clear HR hr hs ht
  go_enter Tryz.func5, Tryz.ntmps5
  go_upto_region 1 with fail
  refine (show ∀ W : World, W = w.alloc (.cells #[.slice none 0 0, .slice none 0 0, .slice none 0 0, .slice none 0 0, .slice none 0 0] 30) → Code.wp _ _ _ _ W from ?_) _ rfl
  intro W0 hW0
  have HW0 := Lib.hid hW0
  clear hW0
  go_wp2_with fail
  refine (Qz5 W0).mono ?_
  rintro e w1 ⟨g1, g2, g3, V, es, rfl, hF, h4⟩
  obtain ⟨a, ha, _⟩ := hF.krn h4
  have S0 := RunI.start HW0.out hF h4 ha
  rw [ha]
  clear hF h4 ha q1
  unfold KA.cells
  go_upto_region 4 with fail
  refine (show ∀ W : World, RunI w W (w1.heap.size + 1) w1.heap.size (newK, []) (.slice none 0 0) a → Code.wp _ _ _ _ W from ?_) _ S0
  clear S0
  intro W1 hS
  have HS1 := Lib.hid hS
  clear hS
  go_wp2_with fail
  go_loopw [6, 7] (fun V i wr => Cnt l.length i fun j => ∃ (V' : Value) (a : KA), V' = V ∧ RunI w wr (w1.heap.size + 1) w1.heap.size (runK newK (l.take j)) V' a) (fun _ i _ => l.length - (intOf i).toNat)
  case atStart => exact ⟨0, Nat.zero_le _, rfl, _, a, rfl, HS1.out⟩
  case round =>
    clear HS1
    obtain ⟨j, hj, rfl, V, a, rfl, hS⟩ := hrel
    by_cases hlt : j < l.length
    · obtain ⟨b, o, rfl, hb, hcell⟩ := HA.out (by omega)
      obtain ⟨c0, c1, c2, c3, c4, c5⟩ := hcell j hlt
      obtain ⟨x, hx⟩ : ∃ x, x = l[j] := ⟨_, rfl⟩
      have hxs : x.name.size ≤ maxLen ∧ x.data.size ≤ maxLen := by rw [hx]; exact HS.out _ (List.getElem_mem hlt)
      have htk : runK newK (l.take (j + 1)) = if doE (runK newK (l.take j)).1 x = 0 then ((doK (runK newK (l.take j)).1 x).1, (runK newK (l.take j)).2 ++ [(doK (runK newK (l.take j)).1 x).2]) else ((runK newK (l.take j)).1, (runK newK (l.take j)).2 ++ [ansE (doE (runK newK (l.take j)).1 x)]) := by
        rw [List.take_succ_eq_append_getElem hlt, ← hx, Oz3]
      have hok := Kz5 (l.take j) Rzb
      have hla : (runK newK (l.take j)).2.length = j := by rw [Iz1, List.length_take]; omega
      rw [← hx] at c0 c1 c2 c3 c4 c5
      obtain ⟨⟨k, la⟩, hkl⟩ : ∃ r, r = runK newK (l.take j) := ⟨_, rfl⟩
      rw [← hkl] at hS htk hok hla
      simp only at htk hok hla
      have c0 := (hS.be.cell (p := ⟨b, o + j * 6, none⟩) hb).trans c0
      have c1 := (hS.be.cell (p := ⟨b, o + j * 6 + 1, none⟩) hb).trans c1
      have c2 := (hS.be.cell (p := ⟨b, o + j * 6 + 2, none⟩) hb).trans c2
      have c3 := (hS.be.cell (p := ⟨b, o + j * 6 + 3, none⟩) hb).trans c3
      have c4 := (hS.be.cell (p := ⟨b, o + j * 6 + 4, none⟩) hb).trans c4
      have c5 := (hS.be.cell (p := ⟨b, o + j * 6 + 5, none⟩) hb).trans c5
      have hbw : b < wr.heap.size := Nat.lt_of_lt_of_le hb hS.be.size
      have hji : (j : Int) < (l.length : Int) := by omega
      obtain ⟨⟨ko, ⟨rc, rn, rd⟩, er⟩, hout⟩ : ∃ r, r = outR k x := ⟨_, rfl⟩
      have HOUT := Lib.hid (outR_out hout)
      have HC : Hid (∀ W : World, Below wr.heap.size wr W → Calls Tryz.prog 10 #[.agg #[.slice a.a0 k.mods.length a.c0, .slice a.a1 k.mem.length a.c1, .slice a.a2 k.nodes.length a.c2, .slice a.a3 k.pipes.length a.c3, .slice a.a4 k.procs.length a.c4], .agg #[.int .i64 x.kind, .int .i64 x.p, .int .i64 x.n, .int .i64 x.m, .string x.name, .string x.data]] W fun e W' => ∃ s : KA, e = .returned (.tuple #[.agg #[.slice s.a0 ko.mods.length s.c0, .slice s.a1 ko.mem.length s.c1, .slice s.a2 ko.nodes.length s.c2, .slice s.a3 ko.pipes.length s.c3, .slice s.a4 ko.procs.length s.c4], .agg #[.int .i64 rc, .int .i64 rn, .string rd], .int .i64 er]) ∧ Below W.heap.size W W' ∧ (er = 0 → HasK W' s ko)) := fun W hb =>
        (Tz5 HR'.out k a x W (hS.below hb).krn hok.small (HT.out.below (hS.below hb).be) hxs.1 hxs.2).mono fun e W' hP => by
          have := hP.has
          rw [← hout] at this
          exact this
      have HTK := Lib.hid htk
      have HLA := Lib.hid hla
      have HSj := Lib.hid hS
      clear hx hcell htk hok hla hS hkl hxs hout
      go_upto_region 8 with fail
      refine rrReg wr w1.heap.size b o l.length c j a k x.kind x.p x.n x.m x.name x.data ko rc rn rd er wr _ (Bz4 _) HSj.out.bk.lt hbw hlt (HSj.out.bk.cell 0) (HSj.out.bk.cell 1) (HSj.out.bk.cell 2) (HSj.out.bk.cell 3) (HSj.out.bk.cell 4) c0 c1 c2 c3 c4 c5 HC.out ?_
      intro listed W y8 y9 y10 y22 y23 y24 y25 y26 y27 y28 y29 y30 y31 hall hJ
      obtain ⟨q8, s, rfl, h8, hb8, hk8⟩ := hJ.f12 (hall 12 (by decide))
      obtain ⟨q9, rfl, h9, hb9⟩ := hJ.f13 (hall 13 (by decide))
      obtain rfl := hJ.f14 (hall 14 (by decide))
      have hbW := hJ.w
      clear hJ hall c0 c1 c2 c3 c4 c5 HC
      by_cases he : er = 0
      · have hdo := HOUT.out.2 he
        have hde := HOUT.out.1.symm.trans he
        rw [if_pos hde, hdo] at HTK
        simp only at HTK
        obtain ⟨hfit, B, ms, es, hC⟩ := hk8 he
        have hP := HSj.out.put hbW hC hfit
        have L := lay5K (B := 0) (Nat.zero_le _) (HSj.out.below hbW).bk rfl (.slice s.a0 ko.mods.length s.c0) (.slice s.a1 ko.mem.length s.c1) (.slice s.a2 ko.nodes.length s.c2) (.slice s.a3 ko.pipes.length s.c3) (.slice s.a4 ko.procs.length s.c4)
        have hX := hb9.tch L.2.1 (by decide)
        have hq : (er == 0) = true := by rw [he]; rfl
        have m0 := hb8.cell 0
        have m1 := hb8.cell 1
        have m2 := hb8.cell 2
        have m3 := hb8.cell 3
        have m4 := hb8.cell 4
        have ml := hb8.lt
        have HSW := Lib.hid (HSj.out.below hbW)
        have f0 := HSW.out.bk.frozen 0
        have f1 := HSW.out.bk.frozen 1
        have f2 := HSW.out.bk.frozen 2
        have f3 := HSW.out.bk.frozen 3
        have f4 := HSW.out.bk.frozen 4
        have d0 := HSW.out.bk.cell 0
        have d1 := HSW.out.bk.cell 1
        have d2 := HSW.out.bk.cell 2
        have d3 := HSW.out.bk.cell 3
        have d4 := HSW.out.bk.cell 4
        have dl := HSW.out.bk.lt
        simp [KA.cells] at m0 m1 m2 m3 m4 d0 d1 d2 d3 d4
        clear hdo hde hC L hb8 hb9 hk8 hfit HSW hbW he HOUT
        unfold lay5 at hP hX
        go_upto_region 12 with fail
        refine (show ∀ (W : World) (yc yn : Int) (yd : ByteArray) (aa : KA), runK newK (l.take (j + 1)) = (ko, la ++ [⟨yc, yn, yd⟩]) → RunI w W (w1.heap.size + 1) w1.heap.size (ko, la) V aa → Blk W q9 36 #[.int .i64 yc, .int .i64 yn, .string yd] → Code.wp _ _ _ _ W from ?_) _ rc rn rd s HTK.out hP hX
        clear hP hX m0 m1 m2 m3 m4 ml f0 f1 f2 f3 f4 d0 d1 d2 d3 d4 dl HTK hq
        intro W5 yc yn yd aa htk hS hX
        have HTK := Lib.hid htk
        have o0 := hX.cell 0
        have o1 := hX.cell 1
        have o2 := hX.cell 2
        have ol := hX.lt
        simp at o0 o1 o2
        have HS6 := Lib.hid (hS.below ((Below.refl W5.heap.size W5).alloc (Nat.le_refl _) (.cells #[.int .i64 yc, .int .i64 yn, .string yd] 36)))
        clear hS hX htk
        go_wp2_with (at_builtin; (refine Azo _ rfl (.tmp 37) (.tmp 39) _ rfl (w1.heap.size + 1) 36 i0 _ 3 32 hU hi0 hz0 hz1 hz2 rfl (by omega) V la.length (Bz7 la) rfl ?own (W5.heap.size + 1) (some ⟨W5.heap.size, 0, none⟩) 1 1 (Bz7 [⟨yc, yn, yd⟩]) rfl ?rd (Mzv _) ?len ?byt ?bas ?_); (case own => exact HS6.out.ow); (case rd => exact ((Blk.new' (by simp)).rd 1 3 (by simp)).more (by simp)); (case len => (have := HLA.out; simp [maxLen]; omega)); (case byt => (have := HLA.out; omega)); (case bas => exact HS6.out.hNw); intro v1 w3 hv1 hg1 _)
        have hR := HS6.out.app hv1 hg1
        exact ⟨⟨j + 1, hlt, by go_num, v1, aa, rfl, by rw [HTK.out]; exact hR⟩, by simp [intOf]; omega⟩
      · have hde : ¬ doE k x = 0 := fun e => he (HOUT.out.1.trans e)
        rw [if_neg hde, ← HOUT.out.1] at HTK
        have L := lay3A (B := wr.heap.size) h9 hb9 (.int .i64 er) (.int .i64 0) (.string ⟨#[]⟩)
        have hP := HSj.out.below (hbW.trans L.2.2)
        have hX := L.1
        have hq : (er == 0) = false := by rw [beq_eq_false_iff_ne]; exact he
        have m0 := hb9.cell 0
        have m1 := hb9.cell 1
        have m2 := hb9.cell 2
        have f0 := hb9.frozen 0
        have f1 := hb9.frozen 1
        have f2 := hb9.frozen 2
        have ml := hb9.lt
        simp at m0 m1 m2
        clear hde L hb8 hb9 hk8 hbW he HOUT
        unfold lay3 at hP hX
        go_upto_region 12 with fail
        refine (show ∀ (W : World) (yc yn : Int) (yd : ByteArray) (aa : KA), runK newK (l.take (j + 1)) = (k, la ++ [⟨yc, yn, yd⟩]) → RunI w W (w1.heap.size + 1) w1.heap.size (k, la) V aa → Blk W q9 36 #[.int .i64 yc, .int .i64 yn, .string yd] → Code.wp _ _ _ _ W from ?_) _ er 0 ⟨#[]⟩ a HTK.out hP hX
        clear hP hX m0 m1 m2 ml f0 f1 f2 HTK hq
        intro W5 yc yn yd aa htk hS hX
        have HTK := Lib.hid htk
        have o0 := hX.cell 0
        have o1 := hX.cell 1
        have o2 := hX.cell 2
        have ol := hX.lt
        simp at o0 o1 o2
        have HS6 := Lib.hid (hS.below ((Below.refl W5.heap.size W5).alloc (Nat.le_refl _) (.cells #[.int .i64 yc, .int .i64 yn, .string yd] 36)))
        clear hS hX htk
        go_wp2_with (at_builtin; (refine Azo _ rfl (.tmp 37) (.tmp 39) _ rfl (w1.heap.size + 1) 36 i0 _ 3 32 hU hi0 hz0 hz1 hz2 rfl (by omega) V la.length (Bz7 la) rfl ?own (W5.heap.size + 1) (some ⟨W5.heap.size, 0, none⟩) 1 1 (Bz7 [⟨yc, yn, yd⟩]) rfl ?rd (Mzv _) ?len ?byt ?bas ?_); (case own => exact HS6.out.ow); (case rd => exact ((Blk.new' (by simp)).rd 1 3 (by simp)).more (by simp)); (case len => (have := HLA.out; simp [maxLen]; omega)); (case byt => (have := HLA.out; omega)); (case bas => exact HS6.out.hNw); intro v1 w3 hv1 hg1 _)
        have hR := HS6.out.app hv1 hg1
        exact ⟨⟨j + 1, hlt, by go_num, v1, aa, rfl, by rw [HTK.out]; exact hR⟩, by simp [intOf]; omega⟩
    · obtain rfl : j = l.length := by omega
      rw [List.take_length] at hS
      obtain ⟨⟨k, la⟩, hkl⟩ : ∃ r, r = runK newK l := ⟨_, rfl⟩
      rw [← hkl] at hS ⊢
      obtain ⟨AV, cV, rfl⟩ := Az1 hS.ow
      have d0 := hS.bk.cell 0
      have d1 := hS.bk.cell 1
      have d2 := hS.bk.cell 2
      have d3 := hS.bk.cell 3
      have d4 := hS.bk.cell 4
      have dl := hS.bk.lt
      have r0 := hS.rs.cell 0
      have r1 := hS.rs.cell 1
      have r2 := hS.rs.cell 2
      have r3 := hS.rs.cell 3
      have r4 := hS.rs.cell 4
      have f0 := hS.rs.frozen 0
      have f1 := hS.rs.frozen 1
      have f2 := hS.rs.frozen 2
      have f3 := hS.rs.frozen 3
      have f4 := hS.rs.frozen 4
      have rl := hS.rs.lt
      have hne : w1.heap.size ≠ w.heap.size := by have := hS.hn; omega
      simp [KA.cells] at d0 d1 d2 d3 d4 r0 r1 r2 r3 r4
      have HSF := Lib.hid hS
      have HKL := Lib.hid hkl
      clear hS hkl hlt hj
      go_wp2_with fail
      go_region
      all_goals
        go_wp2
        refine bodyPost_ret (v := .tuple #[.slice AV la.length cV, .agg #[.slice a.a0 k.mods.length a.c0, .slice a.a1 k.mem.length a.c1, .slice a.a2 k.nodes.length a.c2, .slice a.a3 k.pipes.length a.c3, .slice a.a4 k.procs.length a.c4], .int .i64 0]) (by simp [results, Tryz.results5, go_sem, r0, r1, r2, r3, r4]) rfl ?_
        have hfin := (HSF.out.fin rfl).drew
        rw [HKL.out] at hfin
        exact hfin
theorem Script_many (A : Option Addr) (n c : Nat) (w : World) (h : 200 < n) :
    Calls Tryz.prog 5 #[.slice A n c] w fun e w' => e = .returned (.tuple #[.slice none 0 0, .agg #[.slice none 0 0, .slice none 0 0, .slice none 0 0, .slice none 0 0, .slice none 0 0], .int .i64 1]) ∧ Below w.heap.size w w' := by
  have t : (200 : Int) < (n : Int) := by omega
  have hb0 := Az6 w (.cells #[.slice none 0 0, .slice none 0 0, .slice none 0 0, .slice none 0 0, .slice none 0 0] 30)
  have HB := Lib.hid hb0
  clear hb0 h
  go_enter Tryz.func5, Tryz.ntmps5
  go_wp2_with fail
  have hB := Blk.new w 30 #[.slice none 0 0, .slice none 0 0, .slice none 0 0, .slice none 0 0, .slice none 0 0]
  have r0 := hB.cell 0
  have r1 := hB.cell 1
  have r2 := hB.cell 2
  have r3 := hB.cell 3
  have r4 := hB.cell 4
  simp at r0 r1 r2 r3 r4
  refine bodyPost_ret (v := .tuple #[.slice none 0 0, .agg #[.slice none 0 0, .slice none 0 0, .slice none 0 0, .slice none 0 0, .slice none 0 0], .int .i64 1]) (by simp [results, Tryz.results5, go_sem, r0, r1, r2, r3, r4]) rfl ?_
  exact ⟨rfl, HB.out⟩
end Go.Proofs.YtdjamdbamkhblacGreatDoor
