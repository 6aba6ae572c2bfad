/- The walk of the law KernRuns. Condition: the listed table, the runs' contracts (RunC). By an AI agent (xrrun2.py). -/
import Derived.Test.YtdjamdbamkhblacGreatDoorRRun
import Derived.Test.YtdjamdbamkhblacGreatDoorG31
import Derived.Test.YtdjamdbamkhblacGreatDoorG29
namespace Go.Proofs.YtdjamdbamkhblacGreatDoor
open Go.RowKit
set_option linter.unusedVariables false
set_option linter.unusedSimpArgs false
theorem info_Akt' : (Tryz.prog.info? 40).map (fun i => (i.zero, i.size, i.bytes)) = some (some (.agg #[.int .i64 0, .int .i64 0, .int .i64 0, .int .i64 0, .string ⟨#[]⟩, .string ⟨#[]⟩]), 6, 64) := by kernel_rfl
theorem rdA_rd {w : World} {B : Nat} {A : Option Addr} {l : List Akt} (h : RdA w B A l) : Rd w B 6 A l.length (Eza l) :=
  ⟨Fzi l, fun hn => by
    obtain ⟨b, o, e, hb, hc⟩ := h hn
    refine ⟨b, o, e, hb, fun j u hu => ?_⟩
    have hj : j < l.length * 6 := by rw [← Fzi]; exact (List.getElem?_eq_some_iff.1 hu).1
    have hm : ∃ q, q < l.length ∧ (j = q * 6 ∨ j = q * 6 + 1 ∨ j = q * 6 + 2 ∨ j = q * 6 + 3 ∨ j = q * 6 + 4 ∨ j = q * 6 + 5) := ⟨j / 6, by omega, by omega⟩
    obtain ⟨q, hq, hm⟩ := hm
    have f := fun j hj => Czh (fun x : Akt => [Value.int .i64 x.kind, .int .i64 x.p, .int .i64 x.n, .int .i64 x.m, .string x.name, .string x.data]) 6 (fun _ => rfl) l q hq j hj
    obtain ⟨c0, c1, c2, c3, c4, c5⟩ := hc q hq
    rcases hm with h | h | h | h | h | h <;> subst h
    · have := (f 0 (by omega)).symm.trans hu; cases this; exact c0
    · have := (f 1 (by omega)).symm.trans hu; cases this; exact c1
    · have := (f 2 (by omega)).symm.trans hu; cases this; exact c2
    · have := (f 3 (by omega)).symm.trans hu; cases this; exact c3
    · have := (f 4 (by omega)).symm.trans hu; cases this; exact c4
    · have := (f 5 (by omega)).symm.trans hu; cases this; exact c5⟩
/-- What a script answers, in memory. -/
def PostG (w : World) (k : Krn) (la : List Ans) (er : Int) (e : Ending) (w' : World) : Prop :=
  ∃ (A : Option Addr) (c : Nat) (a : KA), e = .returned (.tuple #[.slice A la.length c, .agg #[.slice a.a0 k.mods.length a.c0, .slice a.a1 k.mem.length a.c1, .slice a.a2 k.nodes.length a.c2, .slice a.a3 k.pipes.length a.c3, .slice a.a4 k.procs.length a.c4], .int .i64 er]) ∧ w'.ownsRow w.heap.size 36 3 (.slice A la.length c) la.length (Bz7 la) ∧ KrnAt w' w'.heap.size a k ∧ Below w.heap.size w w'
theorem RunKPost.toG {w w' : World} {r : Krn × List Ans} {e : Ending} (h : RunKPost w r e w') : PostG w r.1 r.2 0 e w' := by
  obtain ⟨A, c, a, he, ho, hk, _, hb⟩ := h
  exact ⟨A, c, a, he, ho, hk w' (Stp.refl _), hb⟩
theorem many_toG {w w' : World} {e : Ending} (h : e = .returned (.tuple #[.slice none 0 0, .agg #[.slice none 0 0, .slice none 0 0, .slice none 0 0, .slice none 0 0, .slice none 0 0], .int .i64 1]) ∧ Below w.heap.size w w') : PostG w nilK [] 1 e w' :=
  ⟨none, 0, ⟨none, 0, none, 0, none, 0, none, 0, none, 0⟩, h.1, World.ownsRow_nil _ _ _ _, Tze _ _, h.2⟩
set_option maxRecDepth 100000 in
set_option maxHeartbeats 4000000 in
theorem KernRuns_walk (k : Krn) (la : List Ans) (er : Int) (A : Option Addr) (c : Nat) (l : List Akt) (w : World) (hr : RdA w w.heap.size A l) (hlm : l.length * 64 ≤ 140737488351232) (hla : la.length ≤ 200)
    (hA : ∀ (W : World) (A : Option Addr) (c : Nat), Below w.heap.size w W → RdA W W.heap.size A l → Calls Tryz.prog 4 #[.slice A l.length c] W (PostG W k la er))
    (hB : ∀ W : World, Below w.heap.size w W → Calls Tryz.prog 5 #[.slice A l.length c] W (PostG W k la er)) :
    Calls Tryz.prog 3 #[.slice A l.length c] w fun e w' => e = .returned (.bool true) ∧ Below w.heap.size w w' := by
  have HRD := Lib.hid (rdA_rd hr)
  have HLA := Lib.hid hla
  have HLM := Lib.hid hlm
  have HCA := Lib.hid hA
  have HCB := Lib.hid hB
  obtain ⟨i0, hi0, hz0, hz1, hz2⟩ := info_parts info_Akt'
  have hU := Tryz.underlying22
  clear hr hlm hla hA hB
  go_enter Tryz.func3, Tryz.ntmps3
  go_wp2_with (at_builtin; (refine Azo _ rfl (.const (.slice none 0 0)) (.tmp 11) _ rfl w.heap.size 40 i0 _ 6 64 hU hi0 hz0 hz1 hz2 rfl (by omega) (.slice none 0 0) 0 [] rfl (World.ownsRow_nil _ _ _ _) w.heap.size A l.length c (Eza l) rfl HRD.out (Tz6 l) (by have := HLM.out; simp [maxLen]; omega) (by have := HLM.out; omega) (Nat.le_refl _) ?_; intro v1 w1 hv1 hg1 _; rw [Nat.zero_add] at hv1; obtain ⟨a1, k1, rfl⟩ := Az1 hv1; simp only [List.nil_append] at hv1; have hb1 : Below w.heap.size w w1 := (Below.refl _ _).grown hg1 (Nat.le_refl _) (by simp [Value.ownBlock]); have HB1 := Lib.hid hb1; have hK1 : Hid (RdA w1 w1.heap.size a1 l) := RdA.of (Rd.of_own hv1); clear hv1 hg1 hb1))
  refine (HCA.out w1 a1 k1 HB1.out hK1.out).mono ?_
  rintro e w2 ⟨A1, c1, a1', rfl, ho1, hk1, hb2⟩
  have hX := KIn.new hk1
  have g1 := Az6 w2 (.cells (a1'.cells k) 30)
  have hO := own_below ho1 g1
  have hB2 := (HB1.out.trans (hb2.mono HB1.out.size)).trans (g1.mono (Nat.le_trans HB1.out.size hb2.size))
  clear hk1 g1 ho1 hb2 hK1 HB1 HCA
  unfold KA.cells at hX hO hB2
  go_upto_region 2 with fail
  obtain ⟨bx, hbx⟩ : ∃ b, b = w2.heap.size := ⟨_, rfl⟩
  rw [← hbx] at hX ⊢
  refine (show ∀ W : World, Below w.heap.size w W → KIn W bx a1' k → W.ownsRow w1.heap.size 36 3 (.slice A1 la.length c1) la.length (Bz7 la) → Code.wp _ _ _ _ W from ?_) _ hB2 hX hO
  clear hB2 hX hO hbx
  intro W2 hb hX hO
  have HB := Lib.hid hb
  have HX := Lib.hid hX
  have HO := Lib.hid hO
  clear hb hX hO
  go_wp2_with fail
  refine (HCB.out W2 HB.out).mono ?_
  rintro e w3 ⟨A2, c2, a2, rfl, ho2, hk2, hb3⟩
  have hY := KIn.new hk2
  have g1 := Az6 w3 (.cells (a2.cells k) 30)
  have hO1 := own_below (own_below HO.out hb3) g1
  have hO2 := own_below ho2 g1
  have hX2 := (HX.out.below hb3).below g1
  have hB2 := (HB.out.trans (hb3.mono HB.out.size)).trans (g1.mono (Nat.le_trans HB.out.size hb3.size))
  clear hk2 g1 ho2 hb3 HB HX HO HCB
  unfold KA.cells at hY hO1 hO2 hX2 hB2
  go_upto_region 3 with fail
  obtain ⟨b2, hb2⟩ : ∃ b, b = w3.heap.size := ⟨_, rfl⟩
  rw [← hb2] at hY ⊢
  refine (show ∀ W : World, Below w.heap.size w W → KIn W bx a1' k → KIn W b2 a2 k → W.ownsRow w1.heap.size 36 3 (.slice A1 la.length c1) la.length (Bz7 la) → W.ownsRow W2.heap.size 36 3 (.slice A2 la.length c2) la.length (Bz7 la) → Code.wp _ _ _ _ W from ?_) _ hB2 hX2 hY hO1 hO2
  clear hB2 hX2 hY hO1 hO2 hb2
  intro W3 hb hX hY hO1 hO2
  have HB := Lib.hid hb
  have HO1 := Lib.hid hO1
  have HO2 := Lib.hid hO2
  obtain ⟨cl, c0, c1', c2', c3, c4⟩ := krn5 hX.bk
  obtain ⟨dl, d0, d1, d2, d3, d4⟩ := krn5 hY.bk
  have HC := Lib.hid (Ozl k a1' a2 W3 hX.kn hY.kn)
  unfold KA.cells at HC
  clear hb hX hY hO1 hO2
  go_wp2_with fail
  refine HC.out.mono ?_
  rintro e w4 ⟨rfl, hb4⟩
  have HB4 := Lib.hid (HB.out.trans (hb4.mono HB.out.size))
  have HP1 := Lib.hid (own_below HO1.out hb4)
  have HP2 := Lib.hid (own_below HO2.out hb4)
  clear HC HB HO1 HO2 hb4 c0 c1' c2' c3 c4 cl d0 d1 d2 d3 d4 dl
  go_wp2
  go_loopw [9] (fun i wr => Cnt la.length i fun _ => ∃ n, wr = w4.drewN n) (fun i _ => la.length - (intOf i).toNat)
  case atStart => exact ⟨0, Nat.zero_le _, rfl, 0, rfl⟩
  case round =>
    obtain ⟨q, hq, rfl, n, rfl⟩ := hrel
    have hla := HLA.out
    by_cases hlt : q < la.length
    · obtain ⟨b1, rfl, hl1, hc1⟩ := RunKPost.at_ HP1.out (by omega)
      obtain ⟨b3, rfl, hl3, hc3⟩ := RunKPost.at_ HP2.out (by omega)
      obtain ⟨x0, x1, x2⟩ := hc1 q hlt
      obtain ⟨y0, y1, y2⟩ := hc3 q hlt
      clear hc1 hc3 HP1 HP2
      generalize la[q] = z at *
      go_wp2
      go_quiet (fail)
      go_wp2
      exact ⟨⟨q + 1, by omega, by go_num, _, rfl⟩, by simp [intOf]; omega⟩
    · go_wp2
      go_ret
      exact ⟨rfl, Below.drewN' HB4.out n⟩
theorem KernRuns_any (HR1 : RunC 96) (HR2 : RunC 102) (A : Option Addr) (c : Nat) (l : List Akt) (w : World) (hr : RdA w w.heap.size A l) (hlm : l.length * 64 ≤ 140737488351232) (hs : Sz5    l) (ht : Tab w) :
    Calls Tryz.prog 3 #[.slice A l.length c] w fun e w' => e = .returned (.bool true) ∧ Below w.heap.size w w' := by
  by_cases h : l.length ≤ 200
  · refine KernRuns_walk (runK newK l).1 (runK newK l).2 0 A c l w hr hlm (by rw [Iz1]; exact h) ?_ ?_
    · intro W A' c' hb hA
      exact (Tz2 HR1 A' c' l W hA h hs (ht.below hb)).mono fun e W' h => h.toG
    · intro W hb
      exact (Script_any HR2 A c l W ((hr.below hb).more hb.size) h hs (ht.below hb)).mono fun e W' h => h.toG
  · refine KernRuns_walk nilK [] 1 A c l w hr hlm (Nat.zero_le _) ?_ ?_
    · intro W A' c' hb hA
      exact (Sz8 A' l.length c' W (by omega)).mono fun e W' h => many_toG h
    · intro W hb
      exact (Script_many A l.length c W (by omega)).mono fun e W' h => many_toG h
end Go.Proofs.YtdjamdbamkhblacGreatDoor
