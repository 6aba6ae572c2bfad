/- The walk of the top laws' trusted. Condition: the listed table. -/
import Derived.Test.YtdjamdbamkhblabDoorKCode
import Derived.Test.YtdjamdbamkhblabDoorMake
import Derived.Test.YtdjamdbamkhblabDoorVerify
namespace Go.Proofs.YtdjamdbamkhblabDoor
open Go.RowKit
set_option linter.unusedVariables false
set_option linter.unusedSimpArgs false
theorem makeOf_plainT (l : List Ins) : makeOf (plainL l) = (madeOf (plainL l), 0) := by
  have h1 := plainL_ok l
  have h2 := plainL_plainB l
  have h3 := plainL_made l
  have hc : check (plainL l) = 0 := (check_zero_iff _).2 ⟨by omega, h1.2.1⟩
  unfold makeOf
  rw [if_pos hc, if_pos (by unfold plainB; simp [h2]), if_neg (by omega)]
theorem trL_snoc (l : List Ins) (x : Ins) : trL (l ++ [x]) = trL l ++ trI x := by simp [trL]
/-- The code that trusted hands back. -/
def trC (l : List Ins) (made : Bool) : List Ins := if made then madeOf (plainL l) else trL (codeL l)
theorem trC_made (l : List Ins) : trC l true = madeOf (plainL l) := rfl
theorem trC_not (l : List Ins) : trC l false = trL (codeL l) := rfl
theorem trC_len (l : List Ins) (made : Bool) : (trC l made).length ≤ 200 := by
  cases made with
  | false =>
    have h1 := trL_length (codeL l)
    have h2 := codeL_length l
    rw [trC_not]; omega
  | true =>
    have := plainL_made l
    rw [trC_made]; omega
theorem trC_verify (l : List Ins) : verify (trC l true) = 0 := (plainL_made l).2.2
/-- What trusted leaves. -/
def TrPost (w : World) (c : List Ins) (e : Ending) (w' : World) : Prop :=
  ∃ V, e = .returned (.tuple #[V, .bool (decide (verify c = 0))]) ∧ w'.ownsRow w.heap.size 45 4 V c.length (insCells c) ∧ Below w.heap.size w w'
theorem ints_eq0 (n : Int) : (n == 0) = decide (n = 0) := by
  by_cases h : n = 0
  · subst h; rfl
  · rw [beq_eq_false_iff_ne.2 h, decide_eq_false h]
set_option maxRecDepth 100000 in
set_option maxHeartbeats 4000000 in
theorem trusted_made (A : Option Addr) (c : Nat) (l : List Ins) (w : World) (hr : RdI w w.heap.size A l) (hwf : ∀ i ∈ l, i.wf) (hl : l.length ≤ maxLen) (ht : Tab w) :
    Calls Tryd.prog 14 #[.slice A l.length c, .bool true] w (TrPost w (trC l true)) := by
  have HMK : Hid (makeOf (plainL l) = (trC l true, 0)) := makeOf_plainT l
  have HV := Lib.hid (trC_verify l)
  have KP := Lib.hid (KPlain_any A c l w hr hwf hl)
  have h1 := plainL_ok l
  obtain ⟨p, hp⟩ : ∃ p, p = plainL l := ⟨_, rfl⟩
  rw [← hp] at KP HMK h1
  have HPL := Lib.hid (show p.length ≤ maxLen by unfold maxLen; omega)
  obtain ⟨m, hm⟩ : ∃ m, m = trC l true := ⟨_, rfl⟩
  rw [← hm] at HMK HV ⊢
  have HT := Lib.hid ht
  clear hp hm h1 hr hwf hl ht
  go_enter Tryd.func14, Tryd.ntmps14
  go_wp2_with fail
  refine KP.out.mono ?_
  rintro e w1 ⟨V, rfl, hV, hb1⟩
  obtain ⟨A1, c1, rfl⟩ := own_slice hV
  have HB1 := Lib.hid hb1
  have HMA := Lib.hid (Make_any A1 c1 p w1 (RdI.of (Rd.of_own hV)) (HT.out.below hb1) HPL.out)
  clear hV hb1
  go_wp2_with fail
  refine HMA.out.mono ?_
  rw [HMK.out]
  rintro e w2 ⟨V2, rfl, hV2, hb2⟩
  have HF := Lib.hid (HB1.out.trans (hb2.mono HB1.out.size))
  have HO := Lib.hid (own_base hV2 HB1.out.size)
  clear hV2 hb2
  go_wp2
  go_ret2
  exact ⟨V2, by rw [HV.out]; rfl, HO.out, HF.out⟩
/-- Where trusted's loop stands. -/
def TRI (w1 : World) (cl : List Ins) (V i : Value) (wr : World) : Prop :=
  Cnt cl.length i fun k => ∃ V' : Value, V' = V ∧ wr.ownsRow w1.heap.size 45 4 V' (trL (cl.take k)).length (insCells (trL (cl.take k))) ∧ Below w1.heap.size w1 wr
set_option maxRecDepth 100000 in
set_option maxHeartbeats 8000000 in
theorem trusted_not (A : Option Addr) (c : Nat) (l : List Ins) (w : World) (hr : RdI w w.heap.size A l) (hwf : ∀ i ∈ l, i.wf) (hl : l.length ≤ maxLen) (ht : Tab w) :
    Calls Tryd.prog 14 #[.slice A l.length c, .bool false] w (TrPost w (trC l false)) := by
  have KC := Lib.hid (KCode_any A c l w hr hwf hl)
  have h2 := codeL_length l
  rw [trC_not]
  obtain ⟨cl, hcl⟩ : ∃ cl, cl = codeL l := ⟨_, rfl⟩
  rw [← hcl] at KC h2 ⊢
  have HT := Lib.hid ht
  clear hcl hr hwf hl ht
  go_enter Tryd.func14, Tryd.ntmps14
  go_wp2_with fail
  refine KC.out.mono ?_
  rintro e w1 ⟨V1, rfl, hV1, hb1⟩
  obtain ⟨A1, c1, rfl⟩ := own_slice hV1
  have HR := Lib.hid (RdI.of (Rd.of_own hV1))
  have HB1 := Lib.hid hb1
  obtain ⟨i0, hi0, hz0, hz1, hz2⟩ := info_parts info_InstrP
  have hU := Tryd.underlying25
  clear hV1 hb1
  go_wp2_with fail
  go_loopw [8, 24] (fun V i wr => TRI w1 cl V i wr) (fun _ i _ => cl.length - (intOf i).toNat)
  case atStart => exact ⟨0, Nat.zero_le _, rfl, _, rfl, ⟨rfl, .inl ⟨rfl, rfl⟩⟩, Below.refl _ _⟩
  case round =>
    obtain ⟨k, hk', rfl, V, rfl, hV, hB⟩ := hrel
    by_cases hlt : k < cl.length
    · obtain ⟨b, o, rfl, hb, hcell⟩ := HR.out (by omega)
      obtain ⟨c0, c1, c2, c3⟩ := hcell k hlt
      have hkl : (k : Int) < (cl.length : Int) := by omega
      obtain ⟨x, hx⟩ : ∃ x, x = cl[k] := ⟨_, rfl⟩
      rw [← hx] at c0 c1 c2 c3
      obtain ⟨xo, xa, xb, xc⟩ := x
      simp only at c0 c1 c2 c3
      have c0 := (hB.cell (p := ⟨b, o + k * 4, none⟩) hb).trans c0
      have c1 := (hB.cell (p := ⟨b, o + k * 4 + 1, none⟩) hb).trans c1
      have c2 := (hB.cell (p := ⟨b, o + k * 4 + 2, none⟩) hb).trans c2
      have c3 := (hB.cell (p := ⟨b, o + k * 4 + 3, none⟩) hb).trans c3
      have hbw : b < wr.heap.size := Nat.lt_of_lt_of_le hb hB.size
      have htk : trL (cl.take (k + 1)) = trL (cl.take k) ++ trI ⟨xo, xa, xb, xc⟩ := by
        rw [List.take_succ_eq_append_getElem hlt, ← hx, trL_snoc]
      have hlen : (trL (cl.take k)).length ≤ 2 * k := by
        have h1 := trL_length (cl.take k)
        rw [List.length_take] at h1
        omega
      obtain ⟨ls, hls⟩ : ∃ ls, ls = trL (cl.take k) := ⟨_, rfl⟩
      rw [← hls] at hV htk hlen
      have HTK := Lib.hid htk
      have HV := Lib.hid hV
      have HB := Lib.hid hB
      have hk41 : k < 41 := by omega
      clear hx hcell hls htk hV hB
      by_cases h8 : xo = 8
      · subst h8
        have HTI : Hid (trI ⟨8, xa, xb, xc⟩ = [⟨8, xa, 4, xc⟩]) := by show _ = _; simp [trI]
        go_wp2_with (at_builtin; (refine wpList_append_rd _ rfl (.tmp 53) (.tmp 55) _ rfl w1.heap.size 45 i0 _ 4 32 hU hi0 hz0 hz1 hz2 rfl (by omega) V ls.length (insCells ls) rfl ?own ((wr.heap.size + 1) + 1) (some ⟨(wr.heap.size + 1), 0, none⟩) 1 1 (insCells [⟨8, xa, 4, xc⟩]) rfl ?rd (ins_one _) ?len ?byt ?bas ?_); (case own => exact (HV.out.alloc _).alloc _); (case rd => exact ((Blk.new' (by simp)).rd 1 4 (by simp)).more (by simp)); (case len => (simp [maxLen]; omega)); (case byt => omega); (case bas => (have := HB.out.size; simp; omega)); intro v1 w3 hv1 hg1 _)
        have hB3 := ((HB.out.alloc HB.out.size _).alloc (by have := HB.out.size; simp; omega) _).grown hg1 (by have := HB.out.size; simp; omega) (fun q hq => (HV.out.lt q hq).1)
        rw [← insCells_appP] at hv1
        exact ⟨⟨k + 1, hlt, by go_num, v1, rfl, by rw [HTK.out, HTI.out, List.length_append]; exact hv1, hB3⟩, by simp [intOf]; omega⟩
      by_cases h9 : xo = 9
      · subst h9
        clear h8
        have HTI : Hid (trI ⟨9, xa, xb, xc⟩ = [⟨9, xa, 4, xc⟩]) := by show _ = _; simp [trI]
        go_wp2_with (at_builtin; (refine wpList_append_rd _ rfl (.tmp 53) (.tmp 55) _ rfl w1.heap.size 45 i0 _ 4 32 hU hi0 hz0 hz1 hz2 rfl (by omega) V ls.length (insCells ls) rfl ?own ((wr.heap.size + 1) + 1) (some ⟨(wr.heap.size + 1), 0, none⟩) 1 1 (insCells [⟨9, xa, 4, xc⟩]) rfl ?rd (ins_one _) ?len ?byt ?bas ?_); (case own => exact (HV.out.alloc _).alloc _); (case rd => exact ((Blk.new' (by simp)).rd 1 4 (by simp)).more (by simp)); (case len => (simp [maxLen]; omega)); (case byt => omega); (case bas => (have := HB.out.size; simp; omega)); intro v1 w3 hv1 hg1 _)
        have hB3 := ((HB.out.alloc HB.out.size _).alloc (by have := HB.out.size; simp; omega) _).grown hg1 (by have := HB.out.size; simp; omega) (fun q hq => (HV.out.lt q hq).1)
        rw [← insCells_appP] at hv1
        exact ⟨⟨k + 1, hlt, by go_num, v1, rfl, by rw [HTK.out, HTI.out, List.length_append]; exact hv1, hB3⟩, by simp [intOf]; omega⟩
      have e8 : (xo == 8) = false := by rw [beq_eq_false_iff_ne]; exact h8
      have e9 : (xo == 9) = false := by rw [beq_eq_false_iff_ne]; exact h9
      by_cases h4 : xo = 4
      · subst h4
        by_cases ha : xa = 4
        · subst ha
          have HTI : Hid (trI ⟨4, 4, xb, xc⟩ = [⟨4, 4, xb, 6⟩, ⟨5, 4, 4, 5⟩]) := by show _ = _; simp [trI]
          clear h8 h9
          go_upto_region 13 with (at_builtin; (refine wpList_append_rd _ rfl (.tmp 48) (.tmp 50) _ rfl w1.heap.size 45 i0 _ 4 32 hU hi0 hz0 hz1 hz2 rfl (by omega) V ls.length (insCells ls) rfl ?own ((wr.heap.size + 1) + 1) (some ⟨(wr.heap.size + 1), 0, none⟩) 1 1 (insCells [⟨4, 4, xb, 6⟩]) rfl ?rd (ins_one _) ?len ?byt ?bas ?_); (case own => exact (HV.out.alloc _).alloc _); (case rd => exact ((Blk.new' (by simp)).rd 1 4 (by simp)).more (by simp)); (case len => (simp [maxLen]; omega)); (case byt => omega); (case bas => (have := HB.out.size; simp; omega)); intro v1 w3 hv1 hg1 ho1)
          have hB3 := ((HB.out.alloc HB.out.size (.cells #[.int .i64 4, .int .i64 4, .int .i64 xb, .int .i64 6] 45)).alloc (by have := HB.out.size; simp; omega) (.cells #[.int .i64 4, .int .i64 4, .int .i64 xb, .int .i64 6] 45)).grown hg1 (by have := HB.out.size; simp; omega) (fun q hq => (HV.out.lt q hq).1)
          have hne : some wr.heap.size ≠ V.ownBlock := fun e => by have := (HV.out.lt _ e.symm).2; omega
          have hne1 : some wr.heap.size ≠ v1.ownBlock := fun e => by
            rcases ho1 with h | h
            · exact hne (e.trans h)
            · rw [h] at e; simp at e; omega
          have hX3 := ((Blk.new wr 45 #[.int .i64 4, .int .i64 4, .int .i64 xb, .int .i64 6]).alloc (.cells #[.int .i64 4, .int .i64 4, .int .i64 xb, .int .i64 6] 45)).grown hg1 hne
          have hL5 := layIns (B := wr.heap.size) (Nat.le_refl _) hX3 (.int .i64 5) (.int .i64 4) (.int .i64 4) (.int .i64 5)
          have hv5 := ((((hv1.kept (set_grown w3 ⟨wr.heap.size, 0, none⟩ (.int .i64 5)) (.inr fun e => hne1 e.symm)).kept (set_grown _ ⟨wr.heap.size, 1, none⟩ (.int .i64 4)) (.inr fun e => hne1 e.symm)).kept (set_grown _ ⟨wr.heap.size, 2, none⟩ (.int .i64 4)) (.inr fun e => hne1 e.symm)).kept (set_grown _ ⟨wr.heap.size, 3, none⟩ (.int .i64 5)) (.inr fun e => hne1 e.symm))
          have hB5 := hB3.trans (hL5.2.mono HB.out.size)
          obtain ⟨m0, m1, m2, m3⟩ : w3.cell? ⟨wr.heap.size, 0, none⟩ = some (.int .i64 4) ∧ w3.cell? ⟨wr.heap.size, 1, none⟩ = some (.int .i64 4) ∧ w3.cell? ⟨wr.heap.size, 2, none⟩ = some (.int .i64 xb) ∧ w3.cell? ⟨wr.heap.size, 3, none⟩ = some (.int .i64 6) := ⟨hX3.cell 0, hX3.cell 1, hX3.cell 2, hX3.cell 3⟩
          have f0 := hX3.frozen 0
          have f1 := hX3.frozen 1
          have f2 := hX3.frozen 2
          have f3 := hX3.frozen 3
          have hxl := hX3.lt
          have HL5 := Lib.hid (And.intro hL5.1 (And.intro hv5 hB5))
          clear hX3 hL5 hv5 hB5 hB3 hne1 hne hv1 hg1 ho1 c0 c1 c2 c3
          go_upto_region 14 with fail
          refine (show ∀ W5 : World, Blk W5 wr.heap.size 45 #[.int .i64 5, .int .i64 4, .int .i64 4, .int .i64 5] → W5.ownsRow w1.heap.size 45 4 v1 (ls.length + 1) (insCells ls ++ insCells [⟨4, 4, xb, 6⟩]) → Below w1.heap.size w1 W5 → Code.wp _ _ _ _ W5 from ?_) _ HL5.out.1 HL5.out.2.1 HL5.out.2.2
          clear HL5 m0 m1 m2 m3 f0 f1 f2 f3 hxl
          intro W5 hX hv5 hB5
          rw [← insCells_appP] at hv5
          have HV5 := Lib.hid hv5
          have HB5 := Lib.hid hB5
          obtain ⟨m0, m1, m2, m3⟩ : W5.cell? ⟨wr.heap.size, 0, none⟩ = some (.int .i64 5) ∧ W5.cell? ⟨wr.heap.size, 1, none⟩ = some (.int .i64 4) ∧ W5.cell? ⟨wr.heap.size, 2, none⟩ = some (.int .i64 4) ∧ W5.cell? ⟨wr.heap.size, 3, none⟩ = some (.int .i64 5) := ⟨hX.cell 0, hX.cell 1, hX.cell 2, hX.cell 3⟩
          have hxl := hX.lt
          clear hX hv5 hB5
          go_wp2_with (at_builtin; (refine wpList_append_rd _ rfl (.tmp 53) (.tmp 55) _ rfl w1.heap.size 45 i0 _ 4 32 hU hi0 hz0 hz1 hz2 rfl (by omega) v1 (ls.length + 1) (insCells (ls ++ [⟨4, 4, xb, 6⟩])) rfl ?own (W5.heap.size + 1) (some ⟨W5.heap.size, 0, none⟩) 1 1 (insCells [⟨5, 4, 4, 5⟩]) rfl ?rd (ins_one _) ?len ?byt ?bas ?_); (case own => exact HV5.out.alloc _); (case rd => exact ((Blk.new' (by simp)).rd 1 4 (by simp)).more (by simp)); (case len => (simp [maxLen]; omega)); (case byt => omega); (case bas => (have := HB5.out.size; simp; omega)); intro v6 w6 hv6 hg6 _)
          have hB6 := (HB5.out.alloc HB5.out.size _).grown hg6 (by have := HB5.out.size; simp; omega) (fun q hq => (HV5.out.lt q hq).1)
          rw [← insCells_appP, List.append_assoc] at hv6
          exact ⟨⟨k + 1, hlt, by go_num, v6, rfl, by rw [HTK.out, HTI.out, List.length_append]; exact hv6, hB6⟩, by simp [intOf]; omega⟩
        · have ea : (xa == 4) = false := by rw [beq_eq_false_iff_ne]; exact ha
          have HTI : Hid (trI ⟨4, xa, xb, xc⟩ = [⟨4, xa, xb, xc⟩]) := by show _ = _; simp [trI, ha]
          go_wp2_with (at_builtin; (refine wpList_append_rd _ rfl (.tmp 53) (.tmp 55) _ rfl w1.heap.size 45 i0 _ 4 32 hU hi0 hz0 hz1 hz2 rfl (by omega) V ls.length (insCells ls) rfl ?own ((wr.heap.size + 1) + 1) (some ⟨(wr.heap.size + 1), 0, none⟩) 1 1 (insCells [⟨4, xa, xb, xc⟩]) rfl ?rd (ins_one _) ?len ?byt ?bas ?_); (case own => exact (HV.out.alloc _).alloc _); (case rd => exact ((Blk.new' (by simp)).rd 1 4 (by simp)).more (by simp)); (case len => (simp [maxLen]; omega)); (case byt => omega); (case bas => (have := HB.out.size; simp; omega)); intro v1 w3 hv1 hg1 _)
          have hB3 := ((HB.out.alloc HB.out.size _).alloc (by have := HB.out.size; simp; omega) _).grown hg1 (by have := HB.out.size; simp; omega) (fun q hq => (HV.out.lt q hq).1)
          rw [← insCells_appP] at hv1
          exact ⟨⟨k + 1, hlt, by go_num, v1, rfl, by rw [HTK.out, HTI.out, List.length_append]; exact hv1, hB3⟩, by simp [intOf]; omega⟩
      · have e4 : (xo == 4) = false := by rw [beq_eq_false_iff_ne]; exact h4
        have HTI : Hid (trI ⟨xo, xa, xb, xc⟩ = [⟨xo, xa, xb, xc⟩]) := by show _ = _; simp [trI, h8, h9, h4]
        go_wp2_with (at_builtin; (refine wpList_append_rd _ rfl (.tmp 53) (.tmp 55) _ rfl w1.heap.size 45 i0 _ 4 32 hU hi0 hz0 hz1 hz2 rfl (by omega) V ls.length (insCells ls) rfl ?own ((wr.heap.size + 1) + 1) (some ⟨(wr.heap.size + 1), 0, none⟩) 1 1 (insCells [⟨xo, xa, xb, xc⟩]) rfl ?rd (ins_one _) ?len ?byt ?bas ?_); (case own => exact (HV.out.alloc _).alloc _); (case rd => exact ((Blk.new' (by simp)).rd 1 4 (by simp)).more (by simp)); (case len => (simp [maxLen]; omega)); (case byt => omega); (case bas => (have := HB.out.size; simp; omega)); intro v1 w3 hv1 hg1 _)
        have hB3 := ((HB.out.alloc HB.out.size _).alloc (by have := HB.out.size; simp; omega) _).grown hg1 (by have := HB.out.size; simp; omega) (fun q hq => (HV.out.lt q hq).1)
        rw [← insCells_appP] at hv1
        exact ⟨⟨k + 1, hlt, by go_num, v1, rfl, by rw [HTK.out, HTI.out, List.length_append]; exact hv1, hB3⟩, by simp [intOf]; omega⟩
    · obtain rfl : k = cl.length := by omega
      rw [List.take_length] at hV
      obtain ⟨A3, c3, rfl⟩ := own_slice hV
      have h3 := trL_length cl
      have hlen : (trL cl).length ≤ maxLen := by unfold maxLen; omega
      have HRW := Lib.hid (RdI.of (Rd.of_own hV))
      have HB := Lib.hid (HB1.out.trans (hB.mono HB1.out.size))
      have HV3 := Lib.hid (own_base hV HB1.out.size)
      have HVF := Lib.hid (Verify_any A3 c3 (trL cl) wr HRW.out (HT.out.below HB.out) hlen)
      clear hV hB hlt h3 hk'
      go_wp2_with fail
      refine HVF.out.mono ?_
      rintro e w4 ⟨rfl, hb4⟩
      have HF := Lib.hid (HB.out.trans (hb4.mono HB.out.size))
      have HO := Lib.hid (own_below HV3.out hb4)
      clear hb4
      go_wp2
      go_ret2
      exact ⟨_, by rw [ints_eq0]; rfl, HO.out, HF.out⟩
theorem trusted_any (A : Option Addr) (c : Nat) (l : List Ins) (made : Bool) (w : World) (hr : RdI w w.heap.size A l) (hwf : ∀ i ∈ l, i.wf) (hl : l.length ≤ maxLen) (ht : Tab w) :
    Calls Tryd.prog 14 #[.slice A l.length c, .bool made] w (TrPost w (trC l made)) := by
  cases made with
  | true => exact trusted_made A c l w hr hwf hl ht
  | false => exact trusted_not A c l w hr hwf hl ht
end Go.Proofs.YtdjamdbamkhblabDoor
