/- The walks of slices.Grow and slices.Concat at acts. No condition. The walk of picked: no condition but that the number is one of 64 bits. -/
import Derived.Test.YtdjamdbamkhblacDoorG25
import Derived.Lib.AppendZeros
import Derived.Test.YtdjamdbamkhblacDoorG01
namespace Go.Proofs.YtdjamdbamkhblacDoor
open Go.RowKit
set_option linter.unusedVariables false
set_option linter.unusedSimpArgs false
theorem info_Akt : (Tryd.prog.info? 26).map (fun i => (i.zero, i.size, i.bytes)) = some (some (.agg #[.int .i64 0, .int .i64 0, .int .i64 0, .int .i64 0, .string ⟨#[]⟩, .string ⟨#[]⟩]), 6, 64) := by kernel_rfl
theorem RdA.rd {w : World} {B : Nat} {A : Option Addr} {l : List Akt} (h : RdA w B A l) : Rd w B 6 A l.length (aktCells l) :=
 ⟨aktCells_len l, fun hn => by
   obtain ⟨b, o, e, hb, hc⟩ := h hn
   refine ⟨b, o, e, hb, fun j u hu => ?_⟩
   have hj : j < l.length * 6 := by rw [← aktCells_len]; exact (List.getElem?_eq_some_iff.1 hu).1
   have hm : ∃ q, q < l.length ∧ (j = q * 6 ∨ j = q * 6 + 1 ∨ j = q * 6 + 2 ∨ j = q * 6 + 3 ∨ j = q * 6 + 4 ∨ j = q * 6 + 5) := ⟨j / 6, by omega, by omega⟩
   obtain ⟨q, hq, hm⟩ := hm
   have f := fun j hj => flat_at (fun x : Akt => [Value.int .i64 x.kind, .int .i64 x.p, .int .i64 x.n, .int .i64 x.m, .string x.name, .string x.data]) 6 (fun _ => rfl) l q hq j hj
   obtain ⟨c0, c1, c2, c3, c4, c5⟩ := hc q hq
   rcases hm with h | h | h | h | h | h <;> subst h
   ·have := (f 0 (by omega)).symm.trans hu; cases this; exact c0
   ·have := (f 1 (by omega)).symm.trans hu; cases this; exact c1
   ·have := (f 2 (by omega)).symm.trans hu; cases this; exact c2
   ·have := (f 3 (by omega)).symm.trans hu; cases this; exact c3
   ·have := (f 4 (by omega)).symm.trans hu; cases this; exact c4
   ·have := (f 5 (by omega)).symm.trans hu; cases this; exact c5⟩
set_option maxRecDepth 100000 in
set_option maxHeartbeats 1000000 in
theorem Grow_any (n : Nat) (hn : n ≤ 100000) (w : World) :
  Calls Tryd.prog 74 #[.slice none 0 0, .int .i64 (n : Int)] w fun e w' => ∃ A c, e = .returned (.slice A 0 c) ∧ w'.ownsRow w.heap.size 26 6 (.slice A 0 c) 0 [] ∧ Below w.heap.size w w' := by
 by_cases h0 : n = 0
 ·subst h0
  go_enter Tryd.func74, Tryd.ntmps74
  go_wp2
  go_ret
  exact ⟨_, _, rfl, World.ownsRow_nil _ _ _ _, Below.refl _ _⟩
 ·obtain ⟨i0, hi0, hz0, hz1, hz2⟩ := info_parts info_Akt
  have hn1 : 0 < n := by omega
  have hg := Lib.run_append_nil_zeros (P := Tryd.prog) w 27 3 27 26 i0 _ .i64 .i64 rfl rfl hi0 hz0 n hn1 (by rw [hz1]; omega) (by omega) (by rw [hz2]; omega)
  have hge := grownCap_ge w n 0 26
  have hcm := grownCap_le_maxLen w n 0 26 (by unfold maxLen; omega)
  have hsz : (Builtin.zeroCells (Value.agg #[.int .i64 0, .int .i64 0, .int .i64 0, .int .i64 0, .string ⟨#[]⟩, .string ⟨#[]⟩]).cells n ++ Builtin.zeroCells (Value.agg #[.int .i64 0, .int .i64 0, .int .i64 0, .int .i64 0, .string ⟨#[]⟩, .string ⟨#[]⟩]).cells (grownCap w n 0 26 - n)).size = grownCap w n 0 26 * 6 := by
   rw [Array.size_append, size_zeroCells, size_zeroCells]
   have : (Value.agg #[.int .i64 0, .int .i64 0, .int .i64 0, .int .i64 0, .string ⟨#[]⟩, .string ⟨#[]⟩]).cells.size = 6 := by rfl
   rw [this]; omega
  have hp : (0 : Int) < (n : Int) := by omega
  have hp' : ¬ (n : Int) < 0 := by omega
  generalize Builtin.zeroCells (Value.agg #[.int .i64 0, .int .i64 0, .int .i64 0, .int .i64 0, .string ⟨#[]⟩, .string ⟨#[]⟩]).cells n ++ Builtin.zeroCells (Value.agg #[.int .i64 0, .int .i64 0, .int .i64 0, .int .i64 0, .string ⟨#[]⟩, .string ⟨#[]⟩]).cells (grownCap w n 0 26 - n) = cur at hg hsz
  generalize grownCap w n 0 26 = c at hg hge hcm hsz
  have HO : Hid ((w.drew.alloc (.cells cur 26)).ownsRow w.heap.size 26 6 (.slice (some ⟨w.heap.size, 0, none⟩) 0 c) 0 [] ∧ Below w.heap.size w (w.drew.alloc (.cells cur 26))) :=
   ⟨World.ownsRow_made w.drew cur c (Nat.le_refl _) hcm hsz, (Below.drewN' (Below.refl w.heap.size w) 1).alloc (Nat.le_refl _) _⟩
  clear hsz
  go_enter Tryd.func74, Tryd.ntmps74
  go_wp2_with (at_builtin; refine Lib.wpList_append_run _ rfl (.tmp 20) (.tmp 21) _ _ rfl _ _ rfl rfl _ _ hg ?_)
  go_ret
  exact ⟨_, _, rfl, HO.out.1, HO.out.2⟩
structure Sls (w : World) (B b : Nat) (ls : List (Option Addr × Nat × List Akt)) : Prop where
 lt : b < B
 cell : ∀ q (hq : q < ls.length), w.cell? ⟨b, q, none⟩ = some (.slice ls[q].1 ls[q].2.2.length ls[q].2.1)
 rd : ∀ q (hq : q < ls.length), RdA w B ls[q].1 ls[q].2.2
theorem Sls.below {w w' : World} {B b : Nat} {ls : List (Option Addr × Nat × List Akt)} (h : Sls w B b ls) (hb : Below B w w') : Sls w' B b ls :=
 ⟨h.lt, fun q hq => (hb.cell h.lt).trans (h.cell q hq), fun q hq => (h.rd q hq).below hb⟩
def flatS (ls : List (Option Addr × Nat × List Akt)) : List Akt := ls.flatMap fun x => x.2.2
theorem flatS_take (ls : List (Option Addr × Nat × List Akt)) (k : Nat) (hk : k < ls.length) : flatS (ls.take (k + 1)) = flatS (ls.take k) ++ ls[k].2.2 := by
 unfold flatS
 rw [List.take_succ_eq_append_getElem hk, List.flatMap_append]
 simp
theorem flatS_le (ls : List (Option Addr × Nat × List Akt)) (k : Nat) : (flatS (ls.take k)).length ≤ (flatS ls).length := by
 conv => rhs; rw [← List.take_append_drop k ls]
 unfold flatS
 rw [List.flatMap_append, List.length_append]
 omega
set_option maxRecDepth 100000 in
set_option maxHeartbeats 1000000 in
theorem Concat_any (b c : Nat) (ls : List (Option Addr × Nat × List Akt)) (w : World) (hS : Sls w w.heap.size b ls) (hl : ls.length ≤ 100) (hn : (flatS ls).length ≤ 100000) :
  Calls Tryd.prog 32 #[.slice (some ⟨b, 0, none⟩) ls.length c] w fun e w' => ∃ A c', e = .returned (.slice A (flatS ls).length c') ∧ w'.ownsRow w.heap.size 26 6 (.slice A (flatS ls).length c') (flatS ls).length (aktCells (flatS ls)) ∧ Below w.heap.size w w' := by
 have HS := Lib.hid hS
 obtain ⟨i0, hi0, hz0, hz1, hz2⟩ := info_parts info_Akt
 have hU := Tryd.underlying27
 clear hS
 go_enter Tryd.func32, Tryd.ntmps32
 go_wp2_with fail
 go_loopw [3, 11] (fun V i wr => Cnt ls.length i fun k => V = .int .i64 ((flatS (ls.take k)).length : Int) ∧ w = wr) (fun _ i _ => ls.length - (intOf i).toNat)
 case atStart => exact ⟨0, Nat.zero_le _, rfl, rfl, rfl⟩
 case round =>
  obtain ⟨k, hk, rfl, rfl, rfl⟩ := hrel
  by_cases hlt : k < ls.length
  ·have t1 : (k : Int) < (ls.length : Int) := by omega
   have c0 := HS.out.cell k hlt
   have hft := flatS_take ls k hlt
   have hfl := flatS_le ls (k + 1)
   have hfs : (flatS (ls.take (k + 1))).length = (flatS (ls.take k)).length + ls[k].2.2.length := by rw [hft, List.length_append]
   obtain ⟨n, hn0⟩ : ∃ n, n = (flatS (ls.take k)).length := ⟨_, rfl⟩
   obtain ⟨m, hm0⟩ : ∃ m, m = ls[k].2.2.length := ⟨_, rfl⟩
   obtain ⟨A, hA⟩ : ∃ A, A = ls[k].1 := ⟨_, rfl⟩
   obtain ⟨cc, hcc⟩ : ∃ cc, cc = ls[k].2.1 := ⟨_, rfl⟩
   rw [← hm0, ← hA, ← hcc] at c0
   rw [← hn0, ← hm0] at hfs
   rw [← hn0]
   have HF := Lib.hid hfs
   have t2 : ¬ ((n : Int) + (m : Int) < 0) := by omega
   have hbl := HS.out.lt
   have hnm : n + m ≤ 100000 := by omega
   clear hft hfl hfs hn0 hm0 hA hcc
   go_wp2_with fail
   refine ⟨⟨k + 1, hlt, by go_num, by rw [HF.out]; simp, by first | rfl | trivial⟩, by simp [intOf]; omega⟩
  ·have t1 : ¬ (k : Int) < (ls.length : Int) := by omega
   have hk9 : k = ls.length := by omega
   subst hk9
   rw [List.take_length]
   clear hlt
   go_wp2_with fail
   refine (Grow_any (flatS ls).length hn w).mono ?_
   rintro e w1 ⟨A0, c1, rfl, ho, hb⟩
   have HO := Lib.hid ho
   have HB := Lib.hid hb
   clear ho hb t1
   go_wp2_with fail
   go_loopw [6, 27] (fun V i wr => Cnt ls.length i fun k => ∃ A c, V = .slice A (flatS (ls.take k)).length c ∧ wr.ownsRow w.heap.size 26 6 (.slice A (flatS (ls.take k)).length c) (flatS (ls.take k)).length (aktCells (flatS (ls.take k))) ∧ Below w.heap.size w wr) (fun _ i _ => ls.length - (intOf i).toNat)
   case atStart => exact ⟨0, Nat.zero_le _, rfl, A0, c1, rfl, HO.out, HB.out⟩
   case round =>
    obtain ⟨k, hk, rfl, A1, k1, rfl, ho, hb⟩ := hrel
    by_cases hlt : k < ls.length
    ·have t1 : (k : Int) < (ls.length : Int) := by omega
     have hS2 := HS.out.below hb
     have c0 := hS2.cell k hlt
     have hr := (hS2.rd k hlt).rd
     have hft := flatS_take ls k hlt
     have hfl := flatS_le ls (k + 1)
     rw [hft, List.length_append] at hfl
     obtain ⟨L, hL⟩ : ∃ L, L = flatS (ls.take k) := ⟨_, rfl⟩
     obtain ⟨l, hl0⟩ : ∃ l, l = ls[k].2.2 := ⟨_, rfl⟩
     obtain ⟨A, hA⟩ : ∃ A, A = ls[k].1 := ⟨_, rfl⟩
     obtain ⟨cc, hcc⟩ : ∃ cc, cc = ls[k].2.1 := ⟨_, rfl⟩
     rw [← hl0, ← hA, ← hcc] at c0
     rw [← hl0, ← hA] at hr
     rw [← hL, ← hl0] at hft hfl
     rw [← hL] at ho ⊢
     have HF := Lib.hid hft
     have HR := Lib.hid hr
     have HO := Lib.hid ho
     have HB := Lib.hid hb
     have hbl := Nat.lt_of_lt_of_le hS2.lt hb.size
     clear hft hL hl0 hA hcc hS2 hr ho hb
     go_wp2_with (at_builtin; (refine wpList_append_rd _ rfl (.tmp 31) (.tmp 32) _ rfl w.heap.size 26 i0 _ 6 64 hU hi0 hz0 hz1 hz2 rfl (by omega) (.slice A1 L.length k1) L.length (aktCells L) rfl HO.out w.heap.size A l.length cc (aktCells l) rfl HR.out (akt_one _) ?len ?byt ?bas ?_); (case len => (simp [maxLen]; omega)); (case byt => omega); (case bas => exact HB.out.size); intro v1 w3 hv1 hg1 _)
     obtain ⟨A2, k2, rfl⟩ := own_slice hv1
     refine ⟨⟨k + 1, hlt, by go_num, A2, k2, ?_, ?_, HB.out.grown hg1 HB.out.size fun q hq => (HO.out.lt q hq).1⟩, by simp [intOf]; omega⟩
     ·rw [HF.out, List.length_append]
     ·rw [HF.out, List.length_append, aktCells_app]; exact hv1
    ·have t1 : ¬ (k : Int) < (ls.length : Int) := by omega
     have hk9 : k = ls.length := by omega
     subst hk9
     rw [List.take_length] at ho ⊢
     clear hlt
     have HO := Lib.hid ho
     have HB := Lib.hid hb
     clear ho hb
     go_wp2_with fail
     go_ret
     exact ⟨_, _, rfl, HO.out, HB.out⟩
def RanPost (w : World) (r : Krn × List Ans) (e : Ending) (w' : World) : Prop :=
 ∃ (A : Option Addr) (c : Nat) (a : KA), e = .returned (.tuple #[.slice A r.2.length c, .agg (a.cells r.1), .bool true]) ∧ w'.ownsRow w.heap.size 41 3 (.slice A r.2.length c) r.2.length (ansCells r.2) ∧ (∀ W : World, Stp w' W → KrnAt W W.heap.size a r.1) ∧ a.caps r.1 ∧ Below w.heap.size w w'
theorem RanPost.fin {w w' : World} {k : Krn} {la : List Ans} {A : Option Addr} {c N : Nat} {a : KA} (hO : w'.ownsRow N 41 3 (.slice A la.length c) la.length (ansCells la)) (hN : w.heap.size < N) (hNw : N ≤ w'.heap.size) (hK : ∀ W : World, Stp w' W → KrnAt W W.heap.size a k) (hc : a.caps k) (hb : Below w.heap.size w w') (rs : Blk w' w.heap.size 36 #[.slice none 0 0, .slice none 0 0, .slice none 0 0, .slice none 0 0, .slice none 0 0])
  {W' : World} (hW : W' = (lay5 w' w.heap.size (.slice a.a0 k.mods.length a.c0) (.slice a.a1 k.mem.length a.c1) (.slice a.a2 k.nodes.length a.c2) (.slice a.a3 k.pipes.length a.c3) (.slice a.a4 k.procs.length a.c4)).drew) :
  RanPost w (k, la) (.returned (.tuple #[.slice A la.length c, .agg #[.slice a.a0 k.mods.length a.c0, .slice a.a1 k.mem.length a.c1, .slice a.a2 k.nodes.length a.c2, .slice a.a3 k.pipes.length a.c3, .slice a.a4 k.procs.length a.c4], .bool true])) W' := by
 have g := lay5_grown w' w.heap.size (.slice a.a0 k.mods.length a.c0) (.slice a.a1 k.mem.length a.c1) (.slice a.a2 k.nodes.length a.c2) (.slice a.a3 k.pipes.length a.c3) (.slice a.a4 k.procs.length a.c4)
 obtain ⟨WL, hWL⟩ : ∃ WL, WL = lay5 w' w.heap.size (.slice a.a0 k.mods.length a.c0) (.slice a.a1 k.mem.length a.c1) (.slice a.a2 k.nodes.length a.c2) (.slice a.a3 k.pipes.length a.c3) (.slice a.a4 k.procs.length a.c4) := ⟨_, rfl⟩
 rw [← hWL] at g hW
 have ht : Tch 36 w' WL := ⟨g.os, g.tape, g.output, g.size, fun q hq hne => g.block q hq fun e => by
  injection e with e
  subst e
  exact hne _ _ rs⟩
 have hb1 : Below w.heap.size w' WL := ⟨g.os, g.tape, g.output, g.size, fun q hq => g.block q (by have := hb.size; omega) (fun e => by injection e with e; omega)⟩
 have hd := Below.drewN' (Below.refl WL.heap.size WL) 1
 have hsz : w.heap.size ≤ WL.heap.size := Nat.le_trans hb.size g.size
 rw [hW]
 exact ⟨A, c, a, rfl, own_base (own_below (own_tch hO ht (by decide)) hd) (by omega), fun X hS => hK X ((((Stp.refl _).krn ht).trans (Stp.of_below hd)).trans hS), hc, (hb.trans hb1).trans (hd.mono hsz)⟩
set_option maxRecDepth 100000 in
set_option maxHeartbeats 1000000 in
theorem Ran_any (HRC : RunC 156) (b c : Nat) (ls : List (Option Addr × Nat × List Akt)) (L : List Akt) (w : World) (hS : Sls w w.heap.size b ls) (hl : ls.length ≤ 100) (hL : flatS ls = L) (hn : L.length ≤ 200) (hs : ActsOk L) (ht : Tab w) :
  Calls Tryd.prog 14 #[.slice (some ⟨b, 0, none⟩) ls.length c] w (RanPost w (runK newK L)) := by
 have HS := Lib.hid hS
 have HT := Lib.hid ht
 have hb0 := below_box w (.cells #[.slice none 0 0, .slice none 0 0, .slice none 0 0, .slice none 0 0, .slice none 0 0] 36)
 have h0 := Blk.new w 36 #[.slice none 0 0, .slice none 0 0, .slice none 0 0, .slice none 0 0, .slice none 0 0]
 clear hS ht
 go_enter Tryd.func14, Tryd.ntmps14
 go_upto_region 1 with fail
 refine (show ∀ W : World, Blk W w.heap.size 36 #[.slice none 0 0, .slice none 0 0, .slice none 0 0, .slice none 0 0, .slice none 0 0] → Below w.heap.size w W → Code.wp _ _ _ _ W from ?_) _ h0 hb0
 clear h0 hb0
 intro W h0 hb0
 have H0 := Lib.hid h0
 have HB0 := Lib.hid hb0
 clear h0 hb0
 have hS1 : Sls W W.heap.size b ls := by
  have h := HS.out.below HB0.out
  exact ⟨Nat.lt_of_lt_of_le h.lt HB0.out.size, h.cell, fun q hq => (h.rd q hq).more HB0.out.size⟩
 have HC := Lib.hid (Concat_any b c ls W hS1 hl (by rw [hL]; omega))
 rw [hL] at HC
 clear hS1
 go_wp2_with fail
 refine HC.out.mono ?_
 rintro e w1 ⟨A, c1, rfl, ho, hb1⟩
 have hbw1 := HB0.out.trans (hb1.mono HB0.out.size)
 have HR := Lib.hid (KRun_any HRC A c1 L w1 (RdA.of (Rd.of_own ho)) hn hs (HT.out.below hbw1))
 have HB1 := Lib.hid hbw1
 have H1 := Lib.hid (H0.out.below hb1 H0.out.lt)
 have HN := Lib.hid (show w.heap.size < w1.heap.size from Nat.lt_of_lt_of_le H0.out.lt hb1.size)
 clear ho hb1 hbw1 HC H0 HB0
 go_wp2_with fail
 refine HR.out.mono ?_
 rintro e w2 ⟨A2, c2, a, rfl, hO, hK, hcp, hb2⟩
 have hla := runK_len L newK
 obtain ⟨⟨k, la⟩, hkl⟩ : ∃ r, r = runK newK L := ⟨_, rfl⟩
 rw [← hkl] at hO hK hcp hla
 rw [← hkl]
 simp only at hO hK hcp hla
 have hba := (Below.refl w2.heap.size w2).alloc (Nat.le_refl _) (.cells (a.cells k) 36)
 have hX := Blk.new w2 36 (a.cells k)
 have HO := Lib.hid (own_below hO hba)
 have HK : Hid (∀ W : World, Stp (w2.alloc (.cells (a.cells k) 36)) W → KrnAt W W.heap.size a k) := fun W hS => hK W ((Stp.of_below hba).trans hS)
 have HB2 := Lib.hid (HB1.out.trans ((hb2.trans (hba.mono hb2.size)).mono HB1.out.size))
 have H2 := Lib.hid ((H1.out.below hb2 H1.out.lt).below hba (Nat.lt_of_lt_of_le H1.out.lt hb2.size))
 have HN2 := Lib.hid (And.intro (Nat.lt_of_lt_of_le HN.out hb2.size) (Nat.le_trans hb2.size hba.size))
 have HLA := Lib.hid hla
 have HKL := Lib.hid hkl
 have HCP := Lib.hid hcp
 clear hO hK hcp hb2 hla hkl HR HB1 H1 hba
 unfold KA.cells at HO HK HB2 H2 HN2 hX ⊢
 go_upto_region 3 with fail
 refine (show ∀ W : World, W.ownsRow w1.heap.size 41 3 (.slice A2 la.length c2) la.length (ansCells la) → (∀ W' : World, Stp W W' → KrnAt W' W'.heap.size a k) → Below w.heap.size w W → Blk W w.heap.size 36 #[.slice none 0 0, .slice none 0 0, .slice none 0 0, .slice none 0 0, .slice none 0 0] → w1.heap.size ≤ W.heap.size → Blk W w2.heap.size 36 #[.slice a.a0 k.mods.length a.c0, .slice a.a1 k.mem.length a.c1, .slice a.a2 k.nodes.length a.c2, .slice a.a3 k.pipes.length a.c3, .slice a.a4 k.procs.length a.c4] → Code.wp _ _ _ _ W from ?_) _ HO.out HK.out HB2.out H2.out HN2.out.2 hX
 clear HO HK HB2 H2 hX
 intro W3 hO hK hB hR hN hX
 have hne : w2.heap.size ≠ w.heap.size := by have := HN2.out; omega
 have d0 := hX.cell 0
 have d1 := hX.cell 1
 have d2 := hX.cell 2
 have d3 := hX.cell 3
 have d4 := hX.cell 4
 have dl := hX.lt
 have r0 := hR.cell 0
 have r1 := hR.cell 1
 have r2 := hR.cell 2
 have r3 := hR.cell 3
 have r4 := hR.cell 4
 have f0 := hR.frozen 0
 have f1 := hR.frozen 1
 have f2 := hR.frozen 2
 have f3 := hR.frozen 3
 have f4 := hR.frozen 4
 have rl := hR.lt
 simp at d0 d1 d2 d3 d4 r0 r1 r2 r3 r4
 have HFIN : Hid (∀ W' : World, W' = (lay5 W3 w.heap.size (.slice a.a0 k.mods.length a.c0) (.slice a.a1 k.mem.length a.c1) (.slice a.a2 k.nodes.length a.c2) (.slice a.a3 k.pipes.length a.c3) (.slice a.a4 k.procs.length a.c4)).drew → RanPost w (k, la) (.returned (.tuple #[.slice A2 la.length c2, .agg #[.slice a.a0 k.mods.length a.c0, .slice a.a1 k.mem.length a.c1, .slice a.a2 k.nodes.length a.c2, .slice a.a3 k.pipes.length a.c3, .slice a.a4 k.procs.length a.c4], .bool true])) W') :=
  fun W' hW => RanPost.fin hO HN.out hN hK HCP.out hB hR hW
 rw [HKL.out] at HFIN
 have hlb : ((la.length : Int) == (L.length : Int)) = true := by rw [HLA.out]; exact beq_self_eq_true _
 clear hO hK hB hR hN hX HT HS
 go_region
 all_goals
  go_wp2
  refine bodyPost_ret (v := .tuple #[.slice A2 la.length c2, .agg #[.slice a.a0 k.mods.length a.c0, .slice a.a1 k.mem.length a.c1, .slice a.a2 k.nodes.length a.c2, .slice a.a3 k.pipes.length a.c3, .slice a.a4 k.procs.length a.c4], .bool true]) (by simp [results, Tryd.results14, go_sem, r0, r1, r2, r3, r4]) rfl ?_
  exact HFIN.out _ rfl
end Go.Proofs.YtdjamdbamkhblacDoor
namespace Go.Proofs.YtdjamdbamkhblacDoor
open Go.RowKit
def pick (n : Int) (m : Nat) : Nat := (if n < 0 then -(n + 1) else n).toNat % m
theorem pick_lt (n : Int) {m : Nat} (h : 0 < m) : pick n m < m := Nat.mod_lt _ h
set_option maxHeartbeats 400000 in
theorem picked_any (n : Int) (m : Nat) (w : World) (h1 : -9223372036854775808 ≤ n) (h2 : n ≤ 9223372036854775807) (hm : 0 < m) (hm2 : (m : Int) ≤ 9223372036854775807) :
  Calls Tryd.prog 13 #[.int .i64 n, .int .i64 (m : Int)] w fun e w' => e = .returned (.int .i64 (pick n m : Nat)) ∧ w = w' := by
 have hm0 : ¬ (m : Int) = 0 := by omega
 have hm1 : (0 : Int) < (m : Int) := by omega
 have hm3 : ((m : Int) == 0) = false := by rw [beq_eq_false_iff_ne]; exact hm0
 by_cases hn : n < 0
 ·have hn2 : 0 ≤ -(n + 1) := by omega
  have HP : Hid ((pick n m : Nat) = ((-(n + 1)) % (m : Int))) := by
   show ((pick n m : Nat) : Int) = _
   unfold pick
   rw [if_pos hn, Int.natCast_emod, Int.toNat_of_nonneg hn2]
  go_enter Tryd.func13, Tryd.ntmps13
  go_wp2
  go_ret
  refine ⟨ret_int ?_, rfl⟩
  rw [← Int.neg_tmod, Int.tmod_eq_emod_of_nonneg hn2]
  exact HP.out.symm
 ·have hn1 : 0 ≤ n := by omega
  have HP : Hid ((pick n m : Nat) = (n % (m : Int))) := by
   show ((pick n m : Nat) : Int) = _
   unfold pick
   rw [if_neg hn, Int.natCast_emod, Int.toNat_of_nonneg hn1]
  clear hn
  go_enter Tryd.func13, Tryd.ntmps13
  go_wp2
  go_ret
  refine ⟨ret_int ?_, rfl⟩
  first | exact HP.out.symm | (rw [Int.tmod_eq_emod_of_nonneg hn1]; exact HP.out.symm)
end Go.Proofs.YtdjamdbamkhblacDoor
