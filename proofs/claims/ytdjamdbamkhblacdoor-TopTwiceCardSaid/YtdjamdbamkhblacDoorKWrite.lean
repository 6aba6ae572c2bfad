/- The walk of the kernel's write: refusals, and what a writing end of a pipe takes. Condition: the listed table. -/
import Derived.Test.YtdjamdbamkhblacDoorKRead
import Derived.Test.YtdjamdbamkhblacDoorG12
namespace Go.Proofs.YtdjamdbamkhblacDoor
open Go.RowKit
set_option linter.unusedVariables false
set_option linter.unusedSimpArgs false
attribute [local go_sem] After.cell
theorem app_cut (t s : ByteArray) (m : Nat) : t ++ cutS s 0 m = ⟨(t.data.toList ++ s.data.toList.take m).toArray⟩ := by
 apply ByteArray.ext
 rw [ByteArray.data_append]
 apply Array.ext'
 simp [cutS]
theorem take_all (s : ByteArray) (m : Nat) (h : s.size ≤ m) : cutS s 0 m = s := by
 apply ByteArray.ext
 apply Array.ext'
 have e : s.data.toList.length = s.size := by simp
 show (List.drop 0 (List.take m s.data.toList)) = _
 rw [List.drop_zero, List.take_of_length_le (by omega)]
section
variable {B g : Nat} {a : KA} {k : Krn} {ms : List (Value × Value)} {es : List Value}
def WritePost (B : Nat) (w : World) (g : Nat) (ms : List (Value × Value)) (es : List Value) (r : Krn × Ans) (e : Ending) (w' : World) : Prop :=
 e = .returned (.tuple #[.int .i64 r.2.n, .int .i64 r.2.code]) ∧ Fr B w w' ∧ ∃ a', KS B w' g a' r.1 ms es
set_option maxRecDepth 100000 in
set_option maxHeartbeats 4000000 in
theorem write_odd {p i be c : Nat} (s : ByteArray) (w : World) (h : KS B w g a k ms es) (hs : s.size ≤ maxLen) (ho : empS s = true ∨ 100 < s.size) :
  Calls Tryd.prog 122 #[.agg #[.pointer (some ⟨g, 0, none⟩)], .pointer (some ⟨be, i * 3, none⟩), .string s] w (WritePost B w g ms es (writeK k p i s)) := by
 have HV : Hid (writeK k p i s = (k, ansE 2)) := by
  show _ = _
  unfold writeK
  simp only
  rw [if_pos (by rcases ho with h | h; exact .inl h; exact .inr h)]
 have HB := Lib.hid (below_box w (.cells #[.pointer (some ⟨g, 0, none⟩)] 138))
 have HF := Lib.hid (h.below HB.out)
 have HBF := Lib.hid (Fr.low HB.out (Nat.le_of_lt h.lt))
 unfold maxLen at hs
 clear h
 cases hem : empS s with
 | true =>
   have hl0 : s.toList = [] := by rw [empS_l] at hem; simpa using hem
   have hl1 : s.toList.isEmpty = true := by rw [hl0]; rfl
   clear hem ho
   go_enter Tryd.func122, Tryd.ntmps122
   go_wp2_with fail
   go_ret2
   rw [HV.out]
   exact ⟨rfl, HBF.out, _, HF.out⟩
 | false =>
   have h100 : 100 < s.size := by
    rcases ho with h | h
    ·rw [hem] at h; cases h
    ·exact h
   have hl0 : s.toList ≠ [] := by rw [empS_l] at hem; simpa using hem
   have hl1 : s.toList.isEmpty = false := by rw [List.isEmpty_eq_false_iff]; exact hl0
   have q1 : decide ((100 : Int) < (s.size : Int)) = true := by simp; omega
   have q2 : (100 : Int) < (s.size : Int) := by omega
   clear hem ho h100
   go_enter Tryd.func122, Tryd.ntmps122
   go_wp2_with fail
   go_ret2
   rw [HV.out]
   exact ⟨rfl, HBF.out, _, HF.out⟩
set_option maxRecDepth 100000 in
set_option maxHeartbeats 4000000 in
theorem write_pipe {p i be c : Nat} (s : ByteArray) (w : World) (h : KS B w g a k ms es) (hk : KOk k) (hp : p < k.procs.length) (hp' : p < es.length) (he : es[p] = .slice (some ⟨be, 0, none⟩) k.procs[p].ends.length c) (hi : i < k.procs[p].ends.length)
  (h3 : k.procs[p].ends[i].kind = 3) (hem : empS s = false) (h100 : s.size ≤ 100) :
  Calls Tryd.prog 122 #[.agg #[.pointer (some ⟨g, 0, none⟩)], .pointer (some ⟨be, i * 3, none⟩), .string s] w (WritePost B w g ms es (writeK k p i s)) := by
 have HO : Hid (∀ W : World, Below w.heap.size w W → be < W.heap.size ∧ W.cell? ⟨be, i * 3, none⟩ = some (.int .i64 k.procs[p].ends[i].kind) ∧ W.cell? ⟨be, i * 3 + 1, none⟩ = some (.int .i64 k.procs[p].ends[i].node) ∧ W.cell? ⟨be, i * 3 + 2, none⟩ = some (.int .i64 k.procs[p].ends[i].pos)) := fun W hW => (h.below hW).opn hp hp' he hi
 have HEO : endOk k k.procs[p].ends[i] = true := by
  have := ends_ok hk (p := p) (i := i) (by have := hk.l4; omega)
  rw [getD_eq hp, getD_eq hi] at this
  exact this
 have HUN : (k.procs.getD p default).ends.getD i default = k.procs[p].ends[i] := by
  rw [getD_eq hp, getD_eq hi]
 obtain ⟨x, hx⟩ : ∃ x, x = k.procs[p].ends[i] := ⟨_, rfl⟩
 rw [← hx] at HO HEO HUN h3
 obtain ⟨no0, no6, _⟩ := pipe_lt HEO (.inr h3)
 obtain ⟨pi, hpi⟩ : ∃ pi : Nat, x.node = (pi : Int) := ⟨x.node.toNat, by omega⟩
 have l3 := hk.l3
 have hpl : pi < k.pipes.length := by omega
 obtain ⟨t, htt⟩ : ∃ t, t = k.pipes[pi] := ⟨_, rfl⟩
 have htl : t.size ≤ 20 := by
  have := hk.pipes pi hpl
  rw [← htt] at this
  unfold pipBad at this
  simp at this
  omega
 have HRK : Hid (writeK k p i s = if hasE k.procs 2 (pi : Int) = false then (k, ansE 12) else if t.size = 20 then (k, ansE 13) else
   ({ k with pipes := k.pipes.set pi ⟨(t.data.toList ++ s.data.toList.take (min (20 - t.size) s.size)).toArray⟩ }, ansN (min (20 - t.size) s.size))) := by
  show _ = _
  unfold writeK
  simp only
  rw [HUN, if_neg (fun h => by
   rcases h with h | h
   ·rw [hem] at h; cases h
   ·omega), if_pos h3]
  have : k.pipes.getD x.node.toNat noS = t := by
   rw [hpi, Int.toNat_natCast, List.getD_eq_getElem?_getD, List.getElem?_eq_getElem hpl, htt]; rfl
  rw [this, hpi, Int.toNat_natCast]
 have HPI := Lib.hid (show x.node = (pi : Int) ∧ x.kind = 3 from ⟨hpi, h3⟩)
 have hl0 : s.toList ≠ [] := by rw [empS_l] at hem; simpa using hem
 have hl1 : s.toList.isEmpty = false := by rw [List.isEmpty_eq_false_iff]; exact hl0
 have hs0 : 1 ≤ s.size := by
  have h1 : (s.size == 0) = false := hem
  have := beq_eq_false_iff_ne.1 h1
  omega
 have q1 : decide ((100 : Int) < (s.size : Int)) = false := by simp; omega
 have q2 : ¬ (100 : Int) < (s.size : Int) := by omega
 have HB := Lib.hid (below_box w (.cells #[.pointer (some ⟨g, 0, none⟩)] 138))
 have HX := Lib.hid (Blk.new w 138 #[.pointer (some ⟨g, 0, none⟩)])
 have H0 := Lib.hid h
 have HK := Lib.hid hk
 have HL3 := Lib.hid l3
 have HTT := Lib.hid (And.intro htt hpl)
 have pi6 : (pi : Int) < 6 := by omega
 obtain ⟨b3, ha3, _, hb3⟩ := own_addr h.cp.pipes (by omega)
 have HA3 := Lib.hid ha3
 have HCELL : Hid (∀ W : World, Below w.heap.size w W → W.cell? ⟨b3, pi, none⟩ = some (.string t) ∧ b3 < W.heap.size ∧ W.frozen? ⟨b3, pi, none⟩ = false) := fun W hW => by
  have hK := h.below hW
  obtain ⟨b, o, hb, hlt, hc⟩ := hK.krn.pipes (by omega)
  rw [ha3] at hb
  cases hb
  have e := hc pi hpl
  rw [Nat.zero_add, ← htt] at e
  have hf := hK.cp.pipes
  rw [ha3] at hf
  exact ⟨e, hlt, hf.frozenAt pi⟩
 clear h hk hx h3 hpi l3 htt ha3 hb3 hem HEO HUN
 have hW0 := HB.out
 obtain ⟨z0, z1, z2, z3⟩ := HO.out _ hW0
 rw [HPI.out.1] at z2
 rw [HPI.out.2] at z1
 obtain ⟨y0, y1, y2⟩ := HCELL.out _ hW0
 have hK1 := H0.out.below hW0
 obtain ⟨c0, c1, c2, c3, c4⟩ := hK1.c5
 rw [HL3.out, HA3.out] at c3
 have gl := hK1.blk.lt
 have xl := HX.out.lt
 clear hW0 hK1
 go_enter Tryd.func122, Tryd.ntmps122
 go_upto_region 4 with fail
 generalize w.alloc (.cells #[.pointer (some ⟨g, 0, none⟩)] 138) = W0 at *
 have x0 := HX.out.cell 0
 simp at x0
 go_quiet (fail)
 have hWq := Below.drewN' (Below.refl W0.heap.size W0) nq
 have HB1 := Lib.hid (HB.out.trans (hWq.mono HB.out.size))
 have HX1 := Lib.hid (HX.out.drewN nq)
 have HK1 := Lib.hid (H0.out.below HB1.out)
 clear hWq z0 z1 z2 z3 y0 y1 y2 c0 c1 c2 c3 c4 gl x0 xl
 generalize W0.drewN nq = W1 at *
 obtain ⟨z0, z1, z2, z3⟩ := HO.out W1 HB1.out
 rw [HPI.out.1] at z2
 rw [HPI.out.2] at z1
 obtain ⟨y0, y1, y2⟩ := HCELL.out W1 HB1.out
 obtain ⟨c0, c1, c2, c3, c4⟩ := HK1.out.c5
 rw [HL3.out, HA3.out] at c3
 have gl := HK1.out.blk.lt
 have x0 := HX1.out.cell 0
 have xl := HX1.out.lt
 simp at x0
 have HH : Hid (∀ X : After W1, Calls Tryd.prog 50 #[.agg #[.slice a.a0 k.mods.length a.c0, .slice a.a1 k.mem.length a.c1, .slice a.a2 k.nodes.length a.c2, .slice (some ⟨b3, 0, none⟩) 6 a.c3, .slice a.a4 k.procs.length a.c4], .int .i64 2, .int .i64 (pi : Int)] X.w' fun e w' => e = .returned (.bool (hasE k.procs 2 (pi : Int))) ∧ Below X.w'.heap.size X.w' w') :=
  fun X => has_any _ _ _ _ _ _ _ _ _ _ (HK1.out.below X.h).krn.procs (by rw [HK.out.l4]; unfold maxLen; omega)
 cases hh : hasE k.procs 2 (pi : Int) with
 | false =>
   rw [hh, if_pos rfl] at HRK
   simp only [hh] at HH
   clear hh
   go_wp2
   refine wp_region_calm (by kernel_rfl) (by kernel_rfl) ?_
   repeat (go_big_quiet_step ((rename_i X; exact Calls.calm (HH.out X))))
   refine wpQuiet_nil ?_
   rintro W2 ⟨⟨_, hb2⟩, rfl⟩
   rename_i W2
   have HB2 := Lib.hid (HB1.out.trans (hb2.mono HB1.out.size))
   have HK2 := Lib.hid (HK1.out.below hb2)
   have HX2 := Lib.hid (HX1.out.below hb2 HX1.out.lt)
   have HF2 := Lib.hid (Fr.low HB2.out (Nat.le_of_lt H0.out.lt))
   clear hb2 HH z0 z1 z2 z3 y0 y1 y2 c0 c1 c2 c3 c4 gl x0 xl
   go_wp2
   go_ret2
   rw [HRK.out]
   exact ⟨rfl, HF2.out, _, HK2.out⟩
 | true =>
   rw [hh, if_neg (by decide)] at HRK
   simp only [hh] at HH
   clear hh
   by_cases h20 : t.size = 20
   ·rw [if_pos h20] at HRK
    have r0 : ((20 : Int) - (t.size : Int) == 0) = true := by rw [beq_iff_eq]; omega
    have r1 : (20 : Int) - (t.size : Int) = 0 := by omega
    clear h20
    go_wp2
    refine wp_region_calm (by kernel_rfl) (by kernel_rfl) ?_
    repeat (go_big_quiet_step ((rename_i X; exact Calls.calm (HH.out X))))
    refine wpQuiet_nil ?_
    rintro W2 ⟨⟨_, hb2⟩, rfl⟩
    rename_i W2
    have HB2 := Lib.hid (HB1.out.trans (hb2.mono HB1.out.size))
    have HK2 := Lib.hid (HK1.out.below hb2)
    have HX2 := Lib.hid (HX1.out.below hb2 HX1.out.lt)
    have HF2 := Lib.hid (Fr.low HB2.out (Nat.le_of_lt H0.out.lt))
    clear hb2 HH z0 z1 z2 z3 y0 y1 y2 c0 c1 c2 c3 c4 gl x0 xl
    go_wp2
    go_ret2
    rw [HRK.out]
    exact ⟨rfl, HF2.out, _, HK2.out⟩
   ·rw [if_neg h20] at HRK
    obtain ⟨rm, hrm⟩ : ∃ rm : Nat, (20 : Int) - (t.size : Int) = (rm : Int) := ⟨20 - t.size, by omega⟩
    have hrm1 : 1 ≤ rm := by omega
    have hrm2 : rm ≤ 20 := by omega
    have hrm3 : 20 - t.size = rm := by omega
    rw [hrm3] at HRK
    have r0 : ((rm : Int) == 0) = false := by rw [beq_eq_false_iff_ne]; omega
    rw [hrm]
    have HRM := Lib.hid hrm
    clear h20 hrm hrm3
    go_wp2
    refine wp_region_calm (by kernel_rfl) (by kernel_rfl) ?_
    repeat (go_big_quiet_step ((rename_i X; exact Calls.calm (HH.out X))))
    refine wpQuiet_nil ?_
    rintro W2 ⟨⟨_, hb2⟩, rfl⟩
    rename_i W2
    have HB2 := Lib.hid (HB1.out.trans (hb2.mono HB1.out.size))
    have HK2 := Lib.hid (HK1.out.below hb2)
    have HX2 := Lib.hid (HX1.out.below hb2 HX1.out.lt)
    have HF2 := Lib.hid (Fr.low HB2.out (Nat.le_of_lt H0.out.lt))
    clear hb2 HH z0 z1 z2 z3 y0 y1 y2 c0 c1 c2 c3 c4 gl x0 xl
    obtain ⟨z0, z1, z2, z3⟩ := HO.out W2 HB2.out
    rw [HPI.out.1] at z2
    rw [HPI.out.2] at z1
    obtain ⟨y0, y1, y2⟩ := HCELL.out W2 HB2.out
    obtain ⟨c0, c1, c2, c3, c4⟩ := HK2.out.c5
    rw [HL3.out, HA3.out] at c3
    have gl := HK2.out.blk.lt
    have x0 := HX2.out.cell 0
    have xl := HX2.out.lt
    simp at x0
    by_cases hc : rm ≤ s.size
    ·have hc1 : (rm : Int) ≤ (s.size : Int) := by omega
     have HR2 : Hid (writeK k p i s = ({ k with pipes := k.pipes.set pi (t ++ cutS s 0 rm) }, ansN rm)) := by
      show _ = _
      rw [HRK.out, show min rm s.size = rm by omega, app_cut]
     have hcat : ¬ (9223372036854775807 < t.size + min rm s.size) := by omega
     have hcat2 : ¬ (9223372036854775807 < t.size + s.size) := by omega
     clear HRK hc
     go_wp2
     go_still_tail 15, (by kernel_rfl)
     change wpList _ _ _ _ _ W2.drew
     have HFIN := Lib.hid ((HK2.out.below (Below.drewN' (Below.refl _ W2) 1)).pipeCell (i := pi) HA3.out (t ++ cutS s 0 rm))
     have HF5 := Lib.hid ((Fr.drewN HF2.out 1).trans HFIN.out.2)
     go_upto_region 11 with fail
     simp only [cut_ext]
     refine (show ∀ W7 : World, KS B W7 g a { k with pipes := k.pipes.set pi (t ++ cutS s 0 rm) } ms es → Fr B w W7 → Code.wp _ _ _ _ W7 from ?_) _ HFIN.out.1 HF5.out
     clear HFIN HF5 HK2 HX2 HF2 HB2 z0 z1 z2 z3 y0 y1 y2 c0 c1 c2 c3 c4 gl x0 xl
     intro W7 hK7 hF7
     have HK7 := Lib.hid hK7
     have HF7 := Lib.hid hF7
     clear hK7 hF7
     go_wp2
     go_ret2
     rw [HR2.out]
     exact ⟨rfl, HF7.out, _, HK7.out⟩
    ·have hc1 : ¬ (rm : Int) ≤ (s.size : Int) := by omega
     have HR2 : Hid (writeK k p i s = ({ k with pipes := k.pipes.set pi (t ++ s) }, ansN s.size)) := by
      show _ = _
      rw [HRK.out, show min rm s.size = s.size by omega, ← app_cut, take_all s _ (Nat.le_refl _)]
     have hcat : ¬ (9223372036854775807 < t.size + min rm s.size) := by omega
     have hcat2 : ¬ (9223372036854775807 < t.size + s.size) := by omega
     clear HRK hc
     go_wp2
     go_still_tail 15, (by kernel_rfl)
     change wpList _ _ _ _ _ W2.drew
     have HFIN := Lib.hid ((HK2.out.below (Below.drewN' (Below.refl _ W2) 1)).pipeCell (i := pi) HA3.out (t ++ s))
     have HF5 := Lib.hid ((Fr.drewN HF2.out 1).trans HFIN.out.2)
     go_upto_region 11 with fail
     try simp only [cut_ext, take_all s _ (Nat.le_refl _)]
     refine (show ∀ W7 : World, KS B W7 g a { k with pipes := k.pipes.set pi (t ++ s) } ms es → Fr B w W7 → Code.wp _ _ _ _ W7 from ?_) _ HFIN.out.1 HF5.out
     clear HFIN HF5 HK2 HX2 HF2 HB2 z0 z1 z2 z3 y0 y1 y2 c0 c1 c2 c3 c4 gl x0 xl
     intro W7 hK7 hF7
     have HK7 := Lib.hid hK7
     have HF7 := Lib.hid hF7
     clear hK7 hF7
     go_wp2
     go_ret2
     rw [HR2.out]
     exact ⟨rfl, HF7.out, _, HK7.out⟩
end
end Go.Proofs.YtdjamdbamkhblacDoor
