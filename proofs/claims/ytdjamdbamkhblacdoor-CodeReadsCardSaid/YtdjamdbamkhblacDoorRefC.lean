/- The walk of the reference's CodeOf: what it returns, for every text. No condition. By an AI agent. -/
import Derived.Test.YtdjamdbamkhblacDoorRefL
import Derived.Test.YtdjamdbamkhblacDoorRead
namespace Go.Proofs.YtdjamdbamkhblacDoor
open Go.RowKit
set_option linter.unusedVariables false
set_option linter.unusedSimpArgs false
theorem cut_at {l : List UInt8} {u k : Nat} (huk : u ≤ k) (hk : k < l.length) (hs : l[k]? = some 10) (hn : ∀ j, u ≤ j → j < k → l[j]? ≠ some 10) : cutN (l.drop u) = some ((l.drop u).take (k - u), l.drop (k + 1)) := by
  have e : l.drop u = (l.drop u).take (k - u) ++ 10 :: l.drop (k + 1) := by
    have h1 : l.drop k = 10 :: l.drop (k + 1) := by
      rw [List.drop_eq_getElem_cons hk]
      rw [List.getElem?_eq_getElem hk] at hs
      rw [Option.some.inj hs]
    conv => lhs; rw [← List.take_append_drop (k - u) (l.drop u), List.drop_drop, show u + (k - u) = k by omega, h1]
  have hno : ∀ c ∈ (l.drop u).take (k - u), c ≠ 10 := fun c hc => by
    obtain ⟨j, hj, rfl⟩ := List.getElem_of_mem hc
    simp at hj
    intro e
    apply hn (u + j) (by omega) (by omega)
    rw [List.getElem_take, List.getElem_drop] at e
    rw [List.getElem?_eq_getElem (by omega), e]
  conv => lhs; rw [e]
  exact cutN_app hno
theorem cut_end {l : List UInt8} {u : Nat} (hn : ∀ j, u ≤ j → j < l.length → l[j]? ≠ some 10) : cutN (l.drop u) = none := by
  apply cutN_no
  intro c hc e
  obtain ⟨j, hj, rfl⟩ := List.getElem_of_mem hc
  simp at hj
  apply hn (u + j) (by omega) (by omega)
  rw [List.getElem_drop] at e
  rw [List.getElem?_eq_getElem (by omega), e]
set_option maxRecDepth 100000 in
set_option maxHeartbeats 4000000 in
theorem CodeOf_any (s : ByteArray) (hz : s.size ≤ maxLen) (w : World) :
    Calls Tryd.prog 23 #[.string s] w (ReadPost s.data.toList w) := by
  have hmx : (s.size : Int) ≤ 9223372036854775807 := by unfold maxLen at hz; omega
  by_cases hbig : 4000 < s.size
  · have h1 : (4000 : Int) < (s.size : Int) := by omega
    have HV : Hid (readT s.data.toList = ([], 0, 1)) := by
      show _ = _
      unfold readT
      rw [if_pos (by rw [dl_len]; exact hbig)]
    clear hz hbig
    go_enter Tryd.func23, Tryd.ntmps23
    go_wp2
    go_ret3
    exact ReadPost.bad HV.out rfl (Below.refl _ _)
  have h1 : ¬ (4000 : Int) < (s.size : Int) := by omega
  obtain ⟨l, hl⟩ : ∃ l, l = s.data.toList := ⟨_, rfl⟩
  have hll : l.length = s.size := by rw [hl]; exact dl_len s
  have hv : readT l = readL l [] := by
    unfold readT
    rw [if_neg (by omega)]
  rw [← hl]
  have HV0 := Lib.hid hv
  have HZ := Lib.hid (show s.size ≤ 4000 by omega)
  have HL := Lib.hid hl
  clear hz hbig hv hl
  go_enter Tryd.func23, Tryd.ntmps23
  go_wp2_with fail
  go_loopw [5, 6, 7, 8] (fun V a f i wr => ∃ (k u : Nat) (out : List Ins), k ≤ s.size ∧ u ≤ k ∧ out.length ≤ 200 ∧ i = .int .i64 (k : Int) ∧ f = .int .i64 (u : Int) ∧ a = .int .i64 ((out.length + 1 : Nat) : Int) ∧ Hid (readT l = readL (l.drop u) out) ∧ Hid (∀ j, u ≤ j → j < k → l[j]? ≠ some 10) ∧ Hid (wr.ownsRow w.heap.size 65 4 V out.length (insCells out)) ∧ Hid (Below w.heap.size w wr)) (fun _ _ _ i _ => s.size - (intOf i).toNat)
  case atStart => exact ⟨0, 0, [], by omega, Nat.le_refl _, by simp, rfl, rfl, rfl, HV0.out, fun j _ h => absurd h (Nat.not_lt_zero _), World.ownsRow_nil _ _ _ _, Below.refl _ _⟩
  case round =>
    clear HV0
    obtain ⟨k, u, out, hk, huk, ho, rfl, rfl, rfl, HV, HN, HO, HB⟩ := hrel
    obtain ⟨A, c, rfl⟩ := own_slice HO.out
    have HAT : Hid (((out.length + 1 : Nat) : Int) = (out.length : Int) + 1) := by show _ = _; push_cast; rfl
    by_cases hks : k < s.size
    · have hki : (k : Int) < (s.size : Int) := by omega
      have hui : (u : Int) ≤ (k : Int) := by omega
      have hke : (k : Int) ≤ (s.size : Int) := by omega
      by_cases h10 : s[k] = 10
      · have hlk : l[k]? = some 10 := by
          rw [List.getElem?_eq_getElem (by omega), ← h10]
          have e := HL.out
          subst e
          rfl
        have hc := cut_at huk (by omega) hlk HN.out
        have HV2 := Lib.hid (HV.out.trans (readL_cut hc))
        clear hc hlk HN HV
        by_cases h200 : out.length = 200
        · have h200i : (200 : Int) ≤ (out.length : Int) := by omega
          rw [if_pos h200] at HV2
          have HV3 : Hid (readT l = ([], out.length + 1, 1)) := HV2.out
          clear h200 HV2
          go_wp2
          go_ret3
          exact ReadPost.bad HV3.out rfl HB.out
        · have h200i : ¬ (200 : Int) ≤ (out.length : Int) := by omega
          rw [if_neg h200] at HV2
          obtain ⟨x, hx⟩ : ∃ x, s.extract u k = x := ⟨_, rfl⟩
          have hxd : x.data.toList = (l.drop u).take (k - u) := by rw [← hx, HL.out]; exact ext_data s u k (by omega)
          have hx4 : x.size ≤ 4000 := by
            rw [← hx]
            have := HZ.out
            have : (s.extract u k).size ≤ s.size := by simp; omega
            omega
          rw [← hxd] at HV2
          have HLN := Lib.hid (fun (W : World) => lineOf_any x hx4 W)
          clear hxd hx4
          go_wp2_with fail
          refine (HLN.out wr).mono ?_
          rintro e w2 ⟨⟨i, ok, rfl, hy, hn⟩, hb2⟩
          have HB2 := Lib.hid (HB.out.trans (hb2.mono HB.out.size))
          have HO2 := Lib.hid (own_below HO.out hb2)
          clear HLN HO hb2 HB hx
          cases hl : lineL x.data.toList with
          | none =>
            obtain rfl := hn hl
            rw [hl] at HV2
            have HV3 : Hid (readT l = ([], out.length + 1, 4)) := HV2.out
            have HB3 := Lib.hid (HB2.out.alloc HB2.out.size (.cells #[.int .i64 i.op, .int .i64 i.a, .int .i64 i.b, .int .i64 i.c] 65))
            clear hl hy hn HV2
            go_wp2
            go_ret3
            exact ReadPost.bad HV3.out rfl HB3.out
          | some j =>
            obtain ⟨rfl, rfl⟩ := hy j hl
            rw [hl] at HV2
            clear hl hy hn
            have hbn := (Below.refl w2.heap.size w2).alloc (Nat.le_refl _) (.cells #[.int .i64 i.op, .int .i64 i.a, .int .i64 i.b, .int .i64 i.c] 65)
            have hI3 := Blk.new w2 65 #[.int .i64 i.op, .int .i64 i.a, .int .i64 i.b, .int .i64 i.c]
            have hB3 := HB2.out.alloc HB2.out.size (.cells #[.int .i64 i.op, .int .i64 i.a, .int .i64 i.b, .int .i64 i.c] 65)
            go_upto_region 15 with fail
            refine (show ∀ W : World, Below w.heap.size w W → Blk W w2.heap.size 65 #[.int .i64 i.op, .int .i64 i.a, .int .i64 i.b, .int .i64 i.c] → W.ownsRow w.heap.size 65 4 (.slice A out.length c) out.length (insCells out) → Code.wp _ _ _ _ W from ?_) _ hB3 hI3 (own_below HO2.out hbn)
            clear hbn hI3 hB3 HB2 HO2
            intro W3 hb3 hi3 ho3
            have i0 := hi3.cell 0
            have i1 := hi3.cell 1
            have i2 := hi3.cell 2
            have i3 := hi3.cell 3
            have il := hi3.lt
            simp at i0 i1 i2 i3
            have hU := Tryd.underlying56
            obtain ⟨j0, hi0, hz0, hz1, hz2⟩ := info_parts info_InsR
            have hb4 := hb3.alloc hb3.size (.cells #[.int .i64 i.op, .int .i64 i.a, .int .i64 i.b, .int .i64 i.c] 65)
            have ho4 := own_below ho3 ((Below.refl W3.heap.size W3).alloc (Nat.le_refl _) (.cells #[.int .i64 i.op, .int .i64 i.a, .int .i64 i.b, .int .i64 i.c] 65))
            go_wp2_with (at_builtin; (refine wpList_append_rd _ rfl (.tmp 39) (.tmp 41) _ rfl w.heap.size 65 j0 _ 4 32 hU hi0 hz0 hz1 hz2 rfl (by omega) (.slice A out.length c) out.length (insCells out) rfl ho4 _ (some ⟨W3.heap.size, 0, none⟩) 1 1 (insCells [i]) rfl ((Blk.new W3 _ _).rd 1 4 (by simp)) (ins_one _) ?len ?byt ?bas ?_); (case len => (unfold maxLen; omega)); (case byt => omega); (case bas => exact hb4.size); intro v5 w5 hv5 hg5 _; rw [← insCells_appR] at hv5; have hb5 := hb4.grown hg5 hb4.size (fun q hq => (ho4.lt q hq).1))
            have HV3 : Hid (readT l = readL (l.drop (k + 1)) (out ++ [i])) := HV2.out
            exact ⟨⟨k + 1, k + 1, out ++ [i], by omega, Nat.le_refl _, by simp; omega, by go_num, by go_num, by rw [List.length_append]; go_num, HV3, fun j h1 h2 => absurd h2 (by omega), by rw [List.length_append]; exact hv5, hb5⟩, by simp [intOf]; omega⟩
      · have hcb : ((((s[k]).toNat : Nat) : Int) == 10) = false := by
          rw [beq_eq_false_iff_ne]
          intro e
          apply h10
          apply UInt8.toNat_inj.1
          show _ = 10
          omega
        have hcb2 : ((((s[k]).toNat : Nat) : Int) != 10) = true := by simp only [bne, hcb]; rfl
        have HN2 : Hid (∀ j, u ≤ j → j < k + 1 → l[j]? ≠ some 10) := fun j h1 h2 => by
          rcases Nat.lt_or_ge j k with h | h
          · exact HN.out j h1 h
          · obtain rfl : j = k := by omega
            rw [List.getElem?_eq_getElem (by omega)]
            intro e
            apply h10
            have e := Option.some.inj e
            rw [← e]
            have e2 := HL.out
            subst e2
            rfl
        clear HN
        go_wp2_with fail
        exact ⟨⟨k + 1, u, out, by omega, by omega, ho, by go_num, rfl, rfl, HV, HN2, HO, HB⟩, by simp [intOf]; omega⟩
    · obtain rfl : k = s.size := by omega
      have hki : ¬ (s.size : Int) < (s.size : Int) := by omega
      by_cases hus : u < s.size
      · have hui : (u : Int) < (s.size : Int) := by omega
        have HV2 : Hid (readT l = ([], out.length + 1, 5)) := HV.out.trans (readL_none (by intro e; have := congrArg List.length e; simp at this; omega) (cut_end (fun j h1 h2 => HN.out j h1 (by omega))))
        clear HV HN
        go_wp2
        go_ret3
        exact ReadPost.bad HV2.out rfl HB.out
      · obtain rfl : u = s.size := by omega
        have HV2 : Hid (readT l = (out, 0, 0)) := HV.out.trans (by rw [← hll, List.drop_length]; exact readL_nil out)
        clear HV HN
        go_wp2
        go_ret3
        refine ⟨.slice A out.length c, ?_, ?_, HB.out⟩
        · rw [HV2.out]; rfl
        · rw [HV2.out]; exact HO.out
end Go.Proofs.YtdjamdbamkhblacDoor
