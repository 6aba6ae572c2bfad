/- The walk of code.part: a part of an instruction that is read. Condition: the library's variables (EnvT). By an AI agent (xpart.py). -/
import Derived.Test.YtdjamdbamkhblacDoorEnvT
import Derived.Test.YtdjamdbamkhblacDoorShelfC
import Derived.Test.YtdjamdbamkhblacDoorCode
namespace Go.Proofs.YtdjamdbamkhblacDoor
open Go.RowKit
set_option linter.unusedVariables false
set_option linter.unusedSimpArgs false
/-- What part answers. -/
def PartPost (c : UInt8) (t : ByteArray) (w : World) (e : Ending) (w' : World) : Prop :=
  (∃ (v : Int) (b : Bool), e = .returned (.tuple #[.int .i64 v, .bool b]) ∧ (∀ n, partL c t.data.toList = some n → b = true ∧ v = (n : Int)) ∧ (partL c t.data.toList = none → b = false)) ∧ Below w.heap.size w w'
theorem PartPost.no {c : UInt8} {t : ByteArray} {w w' : World} {v : Int} {e : Ending} (h : partL c t.data.toList = none) (he : e = .returned (.tuple #[.int .i64 v, .bool false])) (hb : Below w.heap.size w w') : PartPost c t w e w' :=
  ⟨⟨v, false, he, (fun n hn => by rw [h] at hn; cases hn), fun _ => rfl⟩, hb⟩
theorem PartPost.yes {c : UInt8} {t : ByteArray} {w w' : World} {n : Nat} {e : Ending} (h : partL c t.data.toList = some n) (he : e = .returned (.tuple #[.int .i64 (n : Int), .bool true])) (hb : Below w.heap.size w w') : PartPost c t w e w' :=
  ⟨⟨n, true, he, (fun m hm => by rw [h] at hm; cases hm; exact ⟨rfl, rfl⟩), fun hn => by rw [h] at hn; cases hn⟩, hb⟩
theorem below_bytesW (w : World) (t : TypeId) (l : ByteArray) : Below w.heap.size w (Lib.bytesWorld w t l) := by
  have h1 : Below w.heap.size w (w.drew.alloc (.cells (Lib.bytesCells w t l) t)) := (Below.drewN' (Below.refl _ w) 1).alloc (Nat.le_refl _) _
  unfold Lib.bytesWorld World.freeze
  split
  · exact h1
  · exact ⟨h1.os, h1.tape, h1.output, by have := h1.size; simp, fun q hq => by
      rw [← h1.block q hq]
      simp only [Array.getElem?_modify]
      rw [if_neg (by omega)]⟩
theorem below_bytes {w w' : World} {t : TypeId} (h : w' = w ∨ ∃ l, w' = Lib.bytesWorld w t l) : Below w.heap.size w w' := by
  rcases h with rfl | ⟨l, rfl⟩
  · exact Below.refl _ _
  · exact below_bytesW w t l
theorem ba_of_list {s : ByteArray} {l : List UInt8} (h : l = s.data.toList) : (⟨l.toArray⟩ : ByteArray) = s := by
  subst h
  apply ByteArray.ext
  simp
set_option maxRecDepth 100000 in
set_option maxHeartbeats 4000000 in
theorem part_any (t : ByteArray) (c : UInt8) (hc : c = 114 ∨ c = 119 ∨ c = 112) (hz : t.size ≤ 5000) (w : World) (he : EnvT w) :
    Calls Tryd.prog 97 #[.string t, .int .u8 (c.toNat : Int)] w (PartPost c t w) := by
  have HE := Lib.hid he
  clear he
  rcases hc with rfl | rfl | rfl
  · have HP := Lib.hid (Tryd.strings_HasPrefix t ⟨#[114]⟩ w)
    by_cases hp : ∃ r, t.data.toList = 114 :: r
    · obtain ⟨r, hr⟩ := hp
      have hpt : Lib.hasPrefix t.data.toList [114] = true := by rw [hr]; rfl
      have h1 : 1 ≤ t.size := by
        have := congrArg List.length hr
        simp only [List.length_cons, Array.length_toList] at this
        show 1 ≤ t.data.size
        omega
      obtain ⟨s, hs⟩ : ∃ s : ByteArray, s = ⟨r.toArray⟩ := ⟨_, rfl⟩
      have hsl : s.data.toList = r := by rw [hs]
      have hcut : t.extract 1 t.size = s := by
        apply ByteArray.ext
        apply Array.toList_inj.1
        rw [hsl]
        have e : (t.extract 1 t.size).data.toList = t.data.toList.drop 1 := by
          simp only [ByteArray.data_extract, Array.toList_extract, List.extract_eq_take_drop]
          rw [List.take_of_length_le (by simp)]
        rw [e, hr]; rfl
      have hsz : s.size ≤ 5000 := by
        have := congrArg List.length hr
        simp only [List.length_cons, Array.length_toList] at this
        have e : s.size = r.length := by rw [hs]; show r.toArray.size = _; simp
        have e2 : t.size = t.data.size := rfl
        omega
      have HPL : Hid (partL 114 t.data.toList = numL 7 s.data.toList) := by show _ = _; rw [hr, hsl]; rfl
      rw [hpt] at HP
      clear hpt hr hs hsl
      go_enter Tryd.func97, Tryd.ntmps97
      go_wp2_with fail
      refine HP.out.mono ?_
      rintro e w' ⟨rfl, rfl⟩
      clear HP
      go_upto_region 5 with fail
      cases hA : Lib.atoiAll s.data.toList with
      | ok v =>
        have hbd := Lib.atoiAll_bounds hA
        have HA := Lib.hid (Tryd.strconv_Atoi_ok s (by omega) v hA w')
        have HAA := Lib.hid hA
        clear hA
        go_wp2_with fail
        refine HA.out.mono ?_
        rintro e w1 ⟨rfl, hw1⟩
        have hb1 := below_bytes hw1
        have HB1 := Lib.hid hb1
        have HE1 := Lib.hid (HE.out.below hb1)
        clear HA hw1 hb1
        by_cases h0 : 0 ≤ v
        · have HG := Lib.hid (greatest_any 114 w1)
          rw [show grt 114 = 7 from rfl] at HG
          by_cases h1 : v ≤ 7
          · have HI := Lib.hid (Tryd.strconv_Itoa v (by omega) (by omega) w1 HE1.out.tab.2.2.2)
            by_cases hi : Lib.itoa v = s.data.toList
            · have HV := Lib.hid (HPL.out.trans (num_ok (g := 7) (by omega) HAA.out h0 h1 hi))
              have HN := Lib.hid (show ((v.toNat : Nat) : Int) = v from Int.toNat_of_nonneg h0)
              rw [ba_of_list hi] at HI
              clear hi HAA
              go_wp2_with fail
              refine HG.out.mono ?_
              rintro e w' ⟨rfl, rfl⟩
              go_wp2_with fail
              refine HI.out.mono ?_
              rintro e w2 ⟨rfl, k, os, rfl⟩
              have HB2 := Lib.hid (HB1.out.trans ((below_grew w1 k os).mono HB1.out.size))
              clear HI
              go_wp2
              go_ret2
              exact PartPost.yes HV.out (by rw [HN.out]; rfl) HB2.out
            · have HV : Hid (partL 114 t.data.toList = none) := by
                show _ = _
                rw [HPL.out]
                cases hn : numL 7 s.data.toList with
                | none => rfl
                | some n =>
                  exfalso
                  obtain ⟨e1, e2, e3⟩ := num_bad (by omega) hn
                  rw [HAA.out] at e1
                  cases e1
                  exact hi e3
              have hne : ((⟨(Lib.itoa v).toArray⟩ : ByteArray).toList == s.toList) = false := by
                rw [beq_eq_false_iff_ne, ByteArray.toList_eq, ByteArray.toList_eq]
                intro e
                apply hi
                simpa using e
              generalize (⟨(Lib.itoa v).toArray⟩ : ByteArray) = it at *
              clear hi HAA
              go_wp2_with fail
              refine HG.out.mono ?_
              rintro e w' ⟨rfl, rfl⟩
              go_wp2_with fail
              refine HI.out.mono ?_
              rintro e w2 ⟨rfl, k, os, rfl⟩
              have HB2 := Lib.hid (HB1.out.trans ((below_grew w1 k os).mono HB1.out.size))
              clear HI
              go_wp2
              go_ret2
              exact PartPost.no HV.out rfl HB2.out
          · have HV : Hid (partL 114 t.data.toList = none) := by
              show _ = _
              rw [HPL.out]
              cases hn : numL 7 s.data.toList with
              | none => rfl
              | some n =>
                exfalso
                obtain ⟨e1, e2, e3⟩ := num_bad (by omega) hn
                rw [HAA.out] at e1
                cases e1
                omega
            clear HAA
            go_wp2_with fail
            refine HG.out.mono ?_
            rintro e w' ⟨rfl, rfl⟩
            go_wp2
            go_ret2
            exact PartPost.no HV.out rfl HB1.out
        · have HV : Hid (partL 114 t.data.toList = none) := by
            show _ = _
            rw [HPL.out]
            cases hn : numL 7 s.data.toList with
            | none => rfl
            | some n =>
              exfalso
              obtain ⟨e1, e2, e3⟩ := num_bad (by omega) hn
              rw [HAA.out] at e1
              cases e1
              omega
          clear HAA
          go_wp2
          go_ret2
          exact PartPost.no HV.out rfl HB1.out
      | range =>
        obtain ⟨_, tp, p, hvar⟩ := HE.out.er
        have HA := Lib.hid (Tryd.strconv_Atoi_range_var s (by omega) hA tp p w' hvar)
        have HV : Hid (partL 114 t.data.toList = none) := by
          show _ = _
          rw [HPL.out]
          cases hn : numL 7 s.data.toList with
          | none => rfl
          | some n =>
            exfalso
            obtain ⟨e1, e2, e3⟩ := num_bad (by omega) hn
            rw [hA] at e1
            cases e1
        clear hA hvar
        go_wp2_with fail
        refine HA.out.mono ?_
        rintro e w1 ⟨N, rfl, hN, hc, hb1⟩
        have HB1 := Lib.hid hb1
        clear HA hN hc hb1
        go_wp2
        go_ret2
        exact PartPost.no HV.out rfl HB1.out
      | _ =>
        obtain ⟨_, tp, p, hvar⟩ := HE.out.es
        have HA := Lib.hid (Tryd.strconv_Atoi_syntax_var s (by omega) hA tp p w' hvar)
        have HV : Hid (partL 114 t.data.toList = none) := by
          show _ = _
          rw [HPL.out]
          cases hn : numL 7 s.data.toList with
          | none => rfl
          | some n =>
            exfalso
            obtain ⟨e1, e2, e3⟩ := num_bad (by omega) hn
            rw [hA] at e1
            cases e1
        clear hA hvar
        go_wp2_with fail
        refine HA.out.mono ?_
        rintro e w1 ⟨N, rfl, hN, hc, hb1⟩
        have HB1 := Lib.hid hb1
        clear HA hN hc hb1
        go_wp2
        go_ret2
        exact PartPost.no HV.out rfl HB1.out
    · have hpt : Lib.hasPrefix t.data.toList [114] = false := by
        cases hl : t.data.toList with
        | nil => rfl
        | cons d r =>
          by_cases hd : d = 114
          · exact absurd ⟨r, by rw [hl, hd]⟩ hp
          · simp [Lib.hasPrefix, List.isPrefixOf, Ne.symm hd]
      have HV : Hid (partL 114 t.data.toList = none) := by
        show _ = _
        cases hl : t.data.toList with
        | nil => rfl
        | cons d r =>
          by_cases hd : d = 114
          · exact absurd ⟨r, by rw [hl, hd]⟩ hp
          · show (if d = 114 then numL 7 r else none) = none
            rw [if_neg hd]
      rw [hpt] at HP
      clear hpt hp
      go_enter Tryd.func97, Tryd.ntmps97
      go_wp2_with fail
      refine HP.out.mono ?_
      rintro e w' ⟨rfl, rfl⟩
      clear HP
      go_wp2
      go_ret2
      exact PartPost.no HV.out rfl (Below.refl _ _)
  · have HPL : Hid (partL 119 t.data.toList = numL 65535 t.data.toList) := rfl
    go_enter Tryd.func97, Tryd.ntmps97
    cases hA : Lib.atoiAll t.data.toList with
    | ok v =>
      have hbd := Lib.atoiAll_bounds hA
      have HA := Lib.hid (Tryd.strconv_Atoi_ok t (by omega) v hA w)
      have HAA := Lib.hid hA
      clear hA
      go_wp2_with fail
      refine HA.out.mono ?_
      rintro e w1 ⟨rfl, hw1⟩
      have hb1 := below_bytes hw1
      have HB1 := Lib.hid hb1
      have HE1 := Lib.hid (HE.out.below hb1)
      clear HA hw1 hb1
      by_cases h0 : 0 ≤ v
      · have HG := Lib.hid (greatest_any 119 w1)
        rw [show grt 119 = 65535 from rfl] at HG
        by_cases h1 : v ≤ 65535
        · have HI := Lib.hid (Tryd.strconv_Itoa v (by omega) (by omega) w1 HE1.out.tab.2.2.2)
          by_cases hi : Lib.itoa v = t.data.toList
          · have HV := Lib.hid (HPL.out.trans (num_ok (g := 65535) (by omega) HAA.out h0 h1 hi))
            have HN := Lib.hid (show ((v.toNat : Nat) : Int) = v from Int.toNat_of_nonneg h0)
            rw [ba_of_list hi] at HI
            clear hi HAA
            go_wp2_with fail
            refine HG.out.mono ?_
            rintro e w' ⟨rfl, rfl⟩
            go_wp2_with fail
            refine HI.out.mono ?_
            rintro e w2 ⟨rfl, k, os, rfl⟩
            have HB2 := Lib.hid (HB1.out.trans ((below_grew w1 k os).mono HB1.out.size))
            clear HI
            go_wp2
            go_ret2
            exact PartPost.yes HV.out (by rw [HN.out]; rfl) HB2.out
          · have HV : Hid (partL 119 t.data.toList = none) := by
              show _ = _
              rw [HPL.out]
              cases hn : numL 65535 t.data.toList with
              | none => rfl
              | some n =>
                exfalso
                obtain ⟨e1, e2, e3⟩ := num_bad (by omega) hn
                rw [HAA.out] at e1
                cases e1
                exact hi e3
            have hne : ((⟨(Lib.itoa v).toArray⟩ : ByteArray).toList == t.toList) = false := by
              rw [beq_eq_false_iff_ne, ByteArray.toList_eq, ByteArray.toList_eq]
              intro e
              apply hi
              simpa using e
            generalize (⟨(Lib.itoa v).toArray⟩ : ByteArray) = it at *
            clear hi HAA
            go_wp2_with fail
            refine HG.out.mono ?_
            rintro e w' ⟨rfl, rfl⟩
            go_wp2_with fail
            refine HI.out.mono ?_
            rintro e w2 ⟨rfl, k, os, rfl⟩
            have HB2 := Lib.hid (HB1.out.trans ((below_grew w1 k os).mono HB1.out.size))
            clear HI
            go_wp2
            go_ret2
            exact PartPost.no HV.out rfl HB2.out
        · have HV : Hid (partL 119 t.data.toList = none) := by
            show _ = _
            rw [HPL.out]
            cases hn : numL 65535 t.data.toList with
            | none => rfl
            | some n =>
              exfalso
              obtain ⟨e1, e2, e3⟩ := num_bad (by omega) hn
              rw [HAA.out] at e1
              cases e1
              omega
          clear HAA
          go_wp2_with fail
          refine HG.out.mono ?_
          rintro e w' ⟨rfl, rfl⟩
          go_wp2
          go_ret2
          exact PartPost.no HV.out rfl HB1.out
      · have HV : Hid (partL 119 t.data.toList = none) := by
          show _ = _
          rw [HPL.out]
          cases hn : numL 65535 t.data.toList with
          | none => rfl
          | some n =>
            exfalso
            obtain ⟨e1, e2, e3⟩ := num_bad (by omega) hn
            rw [HAA.out] at e1
            cases e1
            omega
        clear HAA
        go_wp2
        go_ret2
        exact PartPost.no HV.out rfl HB1.out
    | range =>
      obtain ⟨_, tp, p, hvar⟩ := HE.out.er
      have HA := Lib.hid (Tryd.strconv_Atoi_range_var t (by omega) hA tp p w hvar)
      have HV : Hid (partL 119 t.data.toList = none) := by
        show _ = _
        rw [HPL.out]
        cases hn : numL 65535 t.data.toList with
        | none => rfl
        | some n =>
          exfalso
          obtain ⟨e1, e2, e3⟩ := num_bad (by omega) hn
          rw [hA] at e1
          cases e1
      clear hA hvar
      go_wp2_with fail
      refine HA.out.mono ?_
      rintro e w1 ⟨N, rfl, hN, hc, hb1⟩
      have HB1 := Lib.hid hb1
      clear HA hN hc hb1
      go_wp2
      go_ret2
      exact PartPost.no HV.out rfl HB1.out
    | _ =>
      obtain ⟨_, tp, p, hvar⟩ := HE.out.es
      have HA := Lib.hid (Tryd.strconv_Atoi_syntax_var t (by omega) hA tp p w hvar)
      have HV : Hid (partL 119 t.data.toList = none) := by
        show _ = _
        rw [HPL.out]
        cases hn : numL 65535 t.data.toList with
        | none => rfl
        | some n =>
          exfalso
          obtain ⟨e1, e2, e3⟩ := num_bad (by omega) hn
          rw [hA] at e1
          cases e1
      clear hA hvar
      go_wp2_with fail
      refine HA.out.mono ?_
      rintro e w1 ⟨N, rfl, hN, hc, hb1⟩
      have HB1 := Lib.hid hb1
      clear HA hN hc hb1
      go_wp2
      go_ret2
      exact PartPost.no HV.out rfl HB1.out
  · have HPL : Hid (partL 112 t.data.toList = numL 199 t.data.toList) := rfl
    go_enter Tryd.func97, Tryd.ntmps97
    cases hA : Lib.atoiAll t.data.toList with
    | ok v =>
      have hbd := Lib.atoiAll_bounds hA
      have HA := Lib.hid (Tryd.strconv_Atoi_ok t (by omega) v hA w)
      have HAA := Lib.hid hA
      clear hA
      go_wp2_with fail
      refine HA.out.mono ?_
      rintro e w1 ⟨rfl, hw1⟩
      have hb1 := below_bytes hw1
      have HB1 := Lib.hid hb1
      have HE1 := Lib.hid (HE.out.below hb1)
      clear HA hw1 hb1
      by_cases h0 : 0 ≤ v
      · have HG := Lib.hid (greatest_any 112 w1)
        rw [show grt 112 = 199 from rfl] at HG
        by_cases h1 : v ≤ 199
        · have HI := Lib.hid (Tryd.strconv_Itoa v (by omega) (by omega) w1 HE1.out.tab.2.2.2)
          by_cases hi : Lib.itoa v = t.data.toList
          · have HV := Lib.hid (HPL.out.trans (num_ok (g := 199) (by omega) HAA.out h0 h1 hi))
            have HN := Lib.hid (show ((v.toNat : Nat) : Int) = v from Int.toNat_of_nonneg h0)
            rw [ba_of_list hi] at HI
            clear hi HAA
            go_wp2_with fail
            refine HG.out.mono ?_
            rintro e w' ⟨rfl, rfl⟩
            go_wp2_with fail
            refine HI.out.mono ?_
            rintro e w2 ⟨rfl, k, os, rfl⟩
            have HB2 := Lib.hid (HB1.out.trans ((below_grew w1 k os).mono HB1.out.size))
            clear HI
            go_wp2
            go_ret2
            exact PartPost.yes HV.out (by rw [HN.out]; rfl) HB2.out
          · have HV : Hid (partL 112 t.data.toList = none) := by
              show _ = _
              rw [HPL.out]
              cases hn : numL 199 t.data.toList with
              | none => rfl
              | some n =>
                exfalso
                obtain ⟨e1, e2, e3⟩ := num_bad (by omega) hn
                rw [HAA.out] at e1
                cases e1
                exact hi e3
            have hne : ((⟨(Lib.itoa v).toArray⟩ : ByteArray).toList == t.toList) = false := by
              rw [beq_eq_false_iff_ne, ByteArray.toList_eq, ByteArray.toList_eq]
              intro e
              apply hi
              simpa using e
            generalize (⟨(Lib.itoa v).toArray⟩ : ByteArray) = it at *
            clear hi HAA
            go_wp2_with fail
            refine HG.out.mono ?_
            rintro e w' ⟨rfl, rfl⟩
            go_wp2_with fail
            refine HI.out.mono ?_
            rintro e w2 ⟨rfl, k, os, rfl⟩
            have HB2 := Lib.hid (HB1.out.trans ((below_grew w1 k os).mono HB1.out.size))
            clear HI
            go_wp2
            go_ret2
            exact PartPost.no HV.out rfl HB2.out
        · have HV : Hid (partL 112 t.data.toList = none) := by
            show _ = _
            rw [HPL.out]
            cases hn : numL 199 t.data.toList with
            | none => rfl
            | some n =>
              exfalso
              obtain ⟨e1, e2, e3⟩ := num_bad (by omega) hn
              rw [HAA.out] at e1
              cases e1
              omega
          clear HAA
          go_wp2_with fail
          refine HG.out.mono ?_
          rintro e w' ⟨rfl, rfl⟩
          go_wp2
          go_ret2
          exact PartPost.no HV.out rfl HB1.out
      · have HV : Hid (partL 112 t.data.toList = none) := by
          show _ = _
          rw [HPL.out]
          cases hn : numL 199 t.data.toList with
          | none => rfl
          | some n =>
            exfalso
            obtain ⟨e1, e2, e3⟩ := num_bad (by omega) hn
            rw [HAA.out] at e1
            cases e1
            omega
        clear HAA
        go_wp2
        go_ret2
        exact PartPost.no HV.out rfl HB1.out
    | range =>
      obtain ⟨_, tp, p, hvar⟩ := HE.out.er
      have HA := Lib.hid (Tryd.strconv_Atoi_range_var t (by omega) hA tp p w hvar)
      have HV : Hid (partL 112 t.data.toList = none) := by
        show _ = _
        rw [HPL.out]
        cases hn : numL 199 t.data.toList with
        | none => rfl
        | some n =>
          exfalso
          obtain ⟨e1, e2, e3⟩ := num_bad (by omega) hn
          rw [hA] at e1
          cases e1
      clear hA hvar
      go_wp2_with fail
      refine HA.out.mono ?_
      rintro e w1 ⟨N, rfl, hN, hc, hb1⟩
      have HB1 := Lib.hid hb1
      clear HA hN hc hb1
      go_wp2
      go_ret2
      exact PartPost.no HV.out rfl HB1.out
    | _ =>
      obtain ⟨_, tp, p, hvar⟩ := HE.out.es
      have HA := Lib.hid (Tryd.strconv_Atoi_syntax_var t (by omega) hA tp p w hvar)
      have HV : Hid (partL 112 t.data.toList = none) := by
        show _ = _
        rw [HPL.out]
        cases hn : numL 199 t.data.toList with
        | none => rfl
        | some n =>
          exfalso
          obtain ⟨e1, e2, e3⟩ := num_bad (by omega) hn
          rw [hA] at e1
          cases e1
      clear hA hvar
      go_wp2_with fail
      refine HA.out.mono ?_
      rintro e w1 ⟨N, rfl, hN, hc, hb1⟩
      have HB1 := Lib.hid hb1
      clear HA hN hc hb1
      go_wp2
      go_ret2
      exact PartPost.no HV.out rfl HB1.out
end Go.Proofs.YtdjamdbamkhblacDoor
