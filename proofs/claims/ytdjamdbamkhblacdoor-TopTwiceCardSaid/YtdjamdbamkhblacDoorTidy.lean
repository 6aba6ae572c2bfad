/- The walks of the kernel's tidy and of the reference's tidied: what nobody has open, and nobody can open, is gone. No condition. -/
import Derived.Test.YtdjamdbamkhblacDoorG11
import Derived.Test.YtdjamdbamkhblacDoorG14
namespace Go.Proofs.YtdjamdbamkhblacDoor
open Go.RowKit
set_option linter.unusedVariables false
set_option linter.unusedSimpArgs false
def tidNs {α : Type} (f : Nat → α → α) (l : List α) (n : Nat) : List α := (mapI f l 0).take n ++ l.drop n
section
variable {α : Type} {f : Nat → α → α} {l : List α} {n : Nat}
theorem tid_zero : tidNs f l 0 = l := by simp [tidNs]
theorem tid_all (h : l.length ≤ n) : tidNs f l n = mapI f l 0 := by
 unfold tidNs
 rw [List.take_of_length_le (by rw [mapI_length]; exact h), List.drop_of_length_le h, List.append_nil]
theorem tid_len : (tidNs f l n).length = l.length := by
 unfold tidNs
 rw [List.length_append, List.length_take, List.length_drop, mapI_length]; omega
theorem tid_at (i : Nat) : (tidNs f l n)[i]? = if i < n then l[i]?.map (f i) else l[i]? := by
 unfold tidNs
 have hm := mapI_at f l 0 i
 rw [Nat.zero_add] at hm
 have hml := mapI_length f l 0
 by_cases hi : i < n
 ·rw [if_pos hi]
  by_cases hl : i < l.length
  ·rw [List.getElem?_append_left (by rw [List.length_take]; omega), List.getElem?_take, if_pos hi, hm]
  ·rw [List.getElem?_eq_none (by rw [List.length_append, List.length_take, List.length_drop]; omega), List.getElem?_eq_none (by omega)]
   rfl
 ·rw [if_neg hi]
  by_cases hl : n ≤ l.length
  ·rw [List.getElem?_append_right (by rw [List.length_take]; omega), List.length_take, List.getElem?_drop]
   congr 1
   omega
  ·rw [List.getElem?_eq_none (by rw [List.length_append, List.length_take, List.length_drop]; omega), List.getElem?_eq_none (by omega)]
theorem tid_get (h : n < l.length) (h' : n < (tidNs f l n).length) : (tidNs f l n)[n] = l[n] := by
 have := tid_at (f := f) (l := l) (n := n) n
 rw [if_neg (by omega), List.getElem?_eq_getElem h', List.getElem?_eq_getElem h] at this
 injection this
theorem tid_step (h : n < l.length) : (tidNs f l n).set n (f n l[n]) = tidNs f l (n + 1) := by
 apply List.ext_getElem?
 intro i
 rw [List.getElem?_set, tid_at, tid_at, tid_len]
 by_cases hi : n = i
 ·subst hi
  rw [if_pos rfl, if_pos h, if_pos (by omega), List.getElem?_eq_getElem h]
  rfl
 ·rw [if_neg hi]
  by_cases h1 : i < n
  ·rw [if_pos h1, if_pos (by omega)]
  ·rw [if_neg h1, if_neg (by omega)]
theorem tid_same (h : n < l.length) (he : f n l[n] = l[n]) : tidNs f l n = tidNs f l (n + 1) := by
 rw [← tid_step h, he]
 apply List.ext_getElem?
 intro i
 rw [List.getElem?_set]
 by_cases hi : n = i
 ·subst hi
  have h' : n < (tidNs f l n).length := by rw [tid_len]; exact h
  rw [if_pos rfl, if_pos h', List.getElem?_eq_getElem h', tid_get h]
 ·rw [if_neg hi]
end
section
variable {B g : Nat} {a : KA} {k : Krn} {ms : List (Value × Value)} {es : List Value}
set_option maxRecDepth 100000 in
set_option maxHeartbeats 4000000 in
theorem tidy_any (w : World) (h : KS B w g a k ms es) (l2 : k.nodes.length = 8) (l3 : k.pipes.length = 6) (l4 : k.procs.length = 4) :
  Calls Tryd.prog 80 #[.agg #[.pointer (some ⟨g, 0, none⟩)]] w fun e w' => e = .returned (.tuple #[]) ∧ KS B w' g a (tidyK k) ms es ∧ Fr B w w' := by
 obtain ⟨b2, ha2, hbb2, hlt2⟩ := own_addr h.cp.nodes (by omega)
 obtain ⟨b3, ha3, hbb3, hlt3⟩ := own_addr h.cp.pipes (by omega)
 have hb1 := below_box w (.cells #[.pointer (some ⟨g, 0, none⟩)] 138)
 have H1 := Lib.hid (h.below hb1)
 have HX := Lib.hid (Blk.new w 138 #[.pointer (some ⟨g, 0, none⟩)])
 have HB := Lib.hid (Fr.low hb1 (Nat.le_of_lt h.lt))
 have HA2 := Lib.hid ha2
 have HA3 := Lib.hid ha3
 obtain ⟨c0, c1, c2, c3, c4⟩ := H1.out.c5
 rw [l2, ha2] at c2
 have hg := H1.out.blk.lt
 have hx0 := HX.out.cell 0
 have hxl := HX.out.lt
 simp at hx0
 have hBw := Lib.hid h.lt
 clear h hb1 ha2 ha3 c0 c1 c3 c4
 go_enter Tryd.func80, Tryd.ntmps80
 go_wp2_with fail
 generalize w.alloc (.cells #[.pointer (some ⟨g, 0, none⟩)] 138) = W0 at *
 go_loopw [11] (fun i wr => Cnt 8 i fun n => KS B wr g a { k with nodes := tidNs (tidyN k.procs) k.nodes n } ms es ∧ Fr B w wr ∧ Blk wr w.heap.size 138 #[.pointer (some ⟨g, 0, none⟩)]) (fun i _ => 8 - (intOf i).toNat)
 case atStart => exact ⟨0, Nat.zero_le _, rfl, by rw [tid_zero]; exact H1.out, HB.out, HX.out⟩
 case round =>
  clear c2 hx0
  obtain ⟨n, hn, rfl, hK, hBe, hX⟩ := hrel
  by_cases hlt : n < 8
  ·have hlt' : n < k.nodes.length := by omega
   have hltT : n < (tidNs (tidyN k.procs) k.nodes n).length := by rw [tid_len]; exact hlt'
   obtain ⟨b', o', e1, hbB', hcell⟩ := hK.krn.nodes (by show 0 < (tidNs _ _ _).length; omega)
   obtain ⟨rfl, rfl⟩ : b2 = b' ∧ 0 = o' := by
    have := HA2.out.symm.trans e1
    injection this with this
    injection this with e3 e4
    exact ⟨e3, e4⟩
   obtain ⟨z0, z1, z2, z3⟩ := hcell n hltT
   have hgt := tid_get (f := tidyN k.procs) hlt' hltT
   obtain ⟨x, hx⟩ : ∃ x, x = k.nodes[n] := ⟨_, rfl⟩
   simp only [hgt, ← hx] at z0 z1 z2 z3
   simp only [Nat.zero_add] at z0 z1 z2 z3
   have hb1 := below_box wr (.cells #[.string x.name, .int .i64 x.kind, .string x.data, .int .i64 x.unit] 52)
   have hK1 := hK.below hb1
   have hX1 := hX.below hb1 hX.lt
   have hM1 := Blk.new wr 52 #[.string x.name, .int .i64 x.kind, .string x.data, .int .i64 x.unit]
   have hB1 := hBe.trans (Fr.low hb1 (Nat.le_of_lt hK.lt))
   have hS1 := Lib.hid (tid_step (f := tidyN k.procs) hlt')
   have hS2 := Lib.hid (tid_same (f := tidyN k.procs) hlt')
   rw [← hx] at hS1 hS2
   have hn8 : (n : Int) < 8 := by omega
   clear hK hBe hX hcell e1 hgt hx hb1
   obtain ⟨c0, c1, c2, c3, c4⟩ := hK1.c5
   simp only [tid_len] at c2
   rw [l2, HA2.out] at c2
   rw [l4] at c4
   rw [l3] at c3
   have HH := Lib.hid (has_any (.slice a.a0 k.mods.length a.c0) (.slice a.a1 k.mem.length a.c1) (.slice (some ⟨b2, 0, none⟩) 8 a.c2) (.slice a.a3 k.pipes.length a.c3) a.a4 a.c4 k.procs 1 (n : Int) _ hK1.krn.procs (by rw [l4]; unfold maxLen; omega))
   rw [l4, l3] at HH
   have hx0 := hX1.cell 0
   have hxl := hX1.lt
   have hg1 := hK1.blk.lt
   simp at hx0
   have HK1 := Lib.hid hK1
   have HX1 := Lib.hid hX1
   have HB1 := Lib.hid hB1
   have hz2 : b2 < wr.heap.size := hbB'
   clear hK1 hX1 hB1 hM1
   cases hem : empS x.name with
   | false =>
     have hl0 : x.name.toList ≠ [] := by rw [empS_l] at hem; simpa using hem
     have hl1 : (!x.name.toList.isEmpty) = true := by simpa using hl0
     have hl2 : x.name.toList.isEmpty = false := by simpa using hl0
     have HE := Lib.hid (hS2.out (by unfold tidyN; rw [hem]; rfl))
     clear hem
     rw [HE.out] at HK1
     go_wp2
     go_roundw
     case rel => exact ⟨n + 1, by omega, by go_num, HK1.out, HB1.out, HX1.out⟩
     case measure => simp [intOf]; omega
   | true =>
     have hl0 : x.name.toList = [] := by rw [empS_l] at hem; simpa using hem
     cases hh : hasE k.procs 1 (n : Int) with
     | true =>
       have HE := Lib.hid (hS2.out (by unfold tidyN; rw [hem, hh]; rfl))
       rw [hh] at HH
       clear hem hh
       rw [HE.out] at HK1
       go_wp2_with fail
       refine HH.out.mono ?_
       rintro e w1 ⟨rfl, hb1⟩
       have hK2 := HK1.out.below hb1
       have hX2 := HX1.out.below hb1 HX1.out.lt
       have hB2 := HB1.out.trans (Fr.low hb1 (Nat.le_of_lt HK1.out.lt))
       go_wp2
       go_roundw
       case rel => exact ⟨n + 1, by omega, by go_num, hK2, hB2, hX2⟩
       case measure => simp [intOf]; omega
     | false =>
       have hS := hS1.out
       have hdf : tidyN k.procs n x = default := by unfold tidyN; rw [hem, hh]; rfl
       rw [hdf] at hS
       rw [hh] at HH
       clear hem hh hdf
       have HS := Lib.hid hS
       clear hS
       go_wp2_with fail
       refine HH.out.mono ?_
       rintro e w1 ⟨rfl, hb1⟩
       have hK2 := HK1.out.below hb1
       have hX2 := HX1.out.below hb1 HX1.out.lt
       have hB2 := HB1.out.trans (Fr.low hb1 (Nat.le_of_lt HK1.out.lt))
       obtain ⟨d0, d1, d2, d3, d4⟩ := hK2.c5
       simp only [tid_len] at d2
       rw [l2, HA2.out] at d2
       have hx2 := hX2.cell 0
       have hxl2 := hX2.lt
       have hg2 := hK2.blk.lt
       simp at hx2
       have hfr : ∀ o, w1.frozen? ⟨b2, o, none⟩ = false := fun o => by
        have := hK2.cp.nodes
        simp only at this
        rw [HA2.out] at this
        exact this.frozenAt o
       have f0 := hfr (n * 4)
       have f1 := hfr (n * 4 + 1)
       have f2 := hfr (n * 4 + 2)
       have f3 := hfr (n * 4 + 3)
       have HK2 := Lib.hid hK2
       have HX2 := Lib.hid hX2
       have HB2 := Lib.hid hB2
       have hb12 : Below wr.heap.size wr w1 := (below_box wr _).trans (hb1.mono (by simp))
       have y0 := (hb12.cell (p := ⟨b2, _, none⟩) hz2).trans z0
       have y1 := (hb12.cell (p := ⟨b2, _, none⟩) hz2).trans z1
       have y2 := (hb12.cell (p := ⟨b2, _, none⟩) hz2).trans z2
       have y3 := (hb12.cell (p := ⟨b2, _, none⟩) hz2).trans z3
       have hz3 : b2 < w1.heap.size := Nat.lt_of_lt_of_le hz2 hb12.size
       clear hK2 hX2 hB2 hb1 hfr c0 c1 c2 c3 c4 hb12 z0 z1 z2 z3
       go_wp2
       go_roundw
       case rel =>
        have hlk : n < ({ k with nodes := tidNs (tidyN k.procs) k.nodes n } : Krn).nodes.length := hltT
        have hfin := HK2.out.nodeAll HA2.out hlk default
        have hkk : setNod { k with nodes := tidNs (tidyN k.procs) k.nodes n } n default = { k with nodes := tidNs (tidyN k.procs) k.nodes (n + 1) } := by unfold setNod; rw [HS.out]
        rw [hkk] at hfin
        have hne : w.heap.size ≠ b2 := by omega
        exact ⟨n + 1, by omega, by go_num, hfin.1, HB2.out.trans hfin.2, (((HX2.out.far (p := ⟨b2, n * 4, none⟩) hne _).far (p := ⟨b2, n * 4 + 1, none⟩) hne _).far (p := ⟨b2, n * 4 + 2, none⟩) hne _).far (p := ⟨b2, n * 4 + 3, none⟩) hne _⟩
       case measure => simp [intOf]; omega
  ·obtain rfl : n = 8 := by omega
   rw [tid_all (by omega)] at hK
   obtain ⟨c0, c1, c2, c3, c4⟩ := hK.c5
   rw [l3, HA3.out] at c3
   have hx0 := hX.cell 0
   have hxl2 := hX.lt
   have hg2 := hK.blk.lt
   simp at hx0
   have HK0 := Lib.hid hK
   have HB0 := Lib.hid hBe
   have HX0 := Lib.hid hX
   clear hK hBe hX hlt hn c0 c1 c2 c4 H1 HX HB hxl hg
   go_wp2
   clear c3 hx0 hxl2 hg2
   go_loopw [43] (fun i wr => Cnt 6 i fun n => KS B wr g a { k with nodes := mapI (tidyN k.procs) k.nodes 0, pipes := tidNs (tidyS k.procs) k.pipes n } ms es ∧ Fr B w wr ∧ Blk wr w.heap.size 138 #[.pointer (some ⟨g, 0, none⟩)]) (fun i _ => 6 - (intOf i).toNat)
   case atStart => exact ⟨0, Nat.zero_le _, rfl, by rw [tid_zero]; exact HK0.out, HB0.out, HX0.out⟩
   case round =>
    clear HK0 HB0 HX0
    obtain ⟨n, hn, rfl, hK, hBe, hX⟩ := hrel
    by_cases hlt : n < 6
    ·have hlt' : n < k.pipes.length := by omega
     have hltT : n < (tidNs (tidyS k.procs) k.pipes n).length := by rw [tid_len]; exact hlt'
     obtain ⟨b', o', e1, hbB', hcell⟩ := hK.krn.pipes (by show 0 < (tidNs _ _ _).length; omega)
     obtain ⟨rfl, rfl⟩ : b3 = b' ∧ 0 = o' := by
      have := HA3.out.symm.trans e1
      injection this with this
      injection this with e3 e4
      exact ⟨e3, e4⟩
     have z0 := hcell n hltT
     have hgt := tid_get (f := tidyS k.procs) hlt' hltT
     obtain ⟨x, hx⟩ : ∃ x, x = k.pipes[n] := ⟨_, rfl⟩
     simp only [hgt, ← hx, Nat.zero_add] at z0
     have hS1 := Lib.hid (tid_step (f := tidyS k.procs) hlt')
     have hS2 := Lib.hid (tid_same (f := tidyS k.procs) hlt')
     rw [← hx] at hS1 hS2
     have hn8 : (n : Int) < 6 := by omega
     obtain ⟨c0, c1, c2, c3, c4⟩ := hK.c5
     simp only [tid_len, mapI_length] at c2 c3
     rw [l2] at c2
     rw [l3, HA3.out] at c3
     rw [l4] at c4
     have HH := Lib.hid (has_any (.slice a.a0 k.mods.length a.c0) (.slice a.a1 k.mem.length a.c1) (.slice a.a2 8 a.c2) (.slice (some ⟨b3, 0, none⟩) 6 a.c3) a.a4 a.c4 k.procs 2 (n : Int) _ hK.krn.procs (by rw [l4]; unfold maxLen; omega))
     rw [l4] at HH
     have hx0 := hX.cell 0
     have hxl := hX.lt
     have hg1 := hK.blk.lt
     simp at hx0
     have HK1 := Lib.hid hK
     have HX1 := Lib.hid hX
     have HB1 := Lib.hid hBe
     clear hK hX hBe hcell e1 hgt hx
     cases hh : hasE k.procs 2 (n : Int) with
     | true =>
       have HE := Lib.hid (hS2.out (by unfold tidyS; rw [hh]; rfl))
       rw [hh] at HH
       clear hh
       rw [HE.out] at HK1
       go_wp2_with fail
       refine HH.out.mono ?_
       rintro e w1 ⟨rfl, hb1⟩
       have hK2 := HK1.out.below hb1
       have hX2 := HX1.out.below hb1 HX1.out.lt
       have hB2 := HB1.out.trans (Fr.low hb1 (Nat.le_of_lt HK1.out.lt))
       go_wp2
       go_roundw
       case rel => first | exact ⟨n + 1, by omega, by go_num, hK2, hB2, hX2⟩ | ((repeat apply Exists.intro); exact ⟨⟨n + 1, by omega, by go_num, hK2, hB2, hX2⟩, rfl⟩)
       case measure => simp [intOf]; omega
     | false =>
       have hS := hS1.out
       have hdf : tidyS k.procs n x = noS := by unfold tidyS; rw [hh]; rfl
       rw [hdf] at hS
       rw [hh] at HH
       clear hh hdf
       have HS := Lib.hid hS
       clear hS
       go_wp2_with fail
       refine HH.out.mono ?_
       rintro e w1 ⟨rfl, hb1⟩
       have hK2 := HK1.out.below hb1
       have hX2 := HX1.out.below hb1 HX1.out.lt
       have hB2 := HB1.out.trans (Fr.low hb1 (Nat.le_of_lt HK1.out.lt))
       obtain ⟨d0, d1, d2, d3, d4⟩ := hK2.c5
       simp only [tid_len] at d3
       rw [l3, HA3.out] at d3
       have hx2 := hX2.cell 0
       have hxl2 := hX2.lt
       have hg2 := hK2.blk.lt
       simp at hx2
       have f0 : w1.frozen? ⟨b3, n, none⟩ = false := by
        have := hK2.cp.pipes
        simp only at this
        rw [HA3.out] at this
        exact this.frozenAt n
       have y0 := (hb1.cell (p := ⟨b3, _, none⟩) hbB').trans z0
       have hz3 : b3 < w1.heap.size := Nat.lt_of_lt_of_le hbB' hb1.size
       have HK2 := Lib.hid hK2
       have HX2 := Lib.hid hX2
       have HB2 := Lib.hid hB2
       clear hK2 hX2 hB2 hb1 c0 c1 c2 c3 c4 z0
       go_wp2
       go_roundw
       case rel =>
        have hfin := HK2.out.pipeCell (i := n) HA3.out noS
        have hkk : ({ k with nodes := mapI (tidyN k.procs) k.nodes 0, pipes := (tidNs (tidyS k.procs) k.pipes n).set n noS } : Krn) = { k with nodes := mapI (tidyN k.procs) k.nodes 0, pipes := tidNs (tidyS k.procs) k.pipes (n + 1) } := by rw [HS.out]
        simp only at hfin
        rw [hkk] at hfin
        have hne : w.heap.size ≠ b3 := by omega
        first | exact ⟨n + 1, by omega, by go_num, hfin.1, HB2.out.trans hfin.2, HX2.out.far (p := ⟨b3, n, none⟩) hne _⟩ | ((repeat apply Exists.intro); exact ⟨⟨n + 1, by omega, by go_num, hfin.1, HB2.out.trans hfin.2, HX2.out.far (p := ⟨b3, n, none⟩) hne _⟩, rfl⟩)
       case measure => simp [intOf]; omega
    ·obtain rfl : n = 6 := by omega
     rw [tid_all (by omega)] at hK
     have HK := Lib.hid hK
     have HB := Lib.hid hBe
     clear hK hBe hX
     go_wp2
     go_end0
     exact ⟨rfl, HK.out, HB.out⟩
end
end Go.Proofs.YtdjamdbamkhblacDoor
