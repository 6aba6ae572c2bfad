/- The walk of the reference's wordsOf: what it returns, for every string. No condition. -/
import Derived.Test.YtdjamdbamkhblacDoorRefP
import Derived.Test.YtdjamdbamkhblacDoorLine
namespace Go.Proofs.YtdjamdbamkhblacDoor
open Go.RowKit
set_option linter.unusedVariables false
set_option linter.unusedSimpArgs false
theorem info_StrR : (Tryd.prog.info? 9).map (fun i => (i.zero, i.size, i.bytes)) = some (some (.string ⟨#[]⟩), 1, 16) := by kernel_rfl
theorem ext_data (s : ByteArray) (u k : Nat) (h : k ≤ s.size) : (s.extract u k).data.toList = (s.data.toList.drop u).take (k - u) := by
  simp only [ByteArray.data_extract, Array.toList_extract, List.extract_eq_take_drop]
theorem words_cut {l : List UInt8} {u k : Nat} (huk : u ≤ k) (hk : k < l.length) (hs : l[k]? = some 32) (hn : ∀ j, u ≤ j → j < k → l[j]? ≠ some 32) : wordsL (l.drop u) = (l.drop u).take (k - u) :: wordsL (l.drop (k + 1)) := by
  have e : l.drop u = (l.drop u).take (k - u) ++ 32 :: l.drop (k + 1) := by
    have h1 : l.drop k = 32 :: l.drop (k + 1) := by
      rw [List.drop_eq_getElem_cons hk]
      rw [List.getElem?_eq_getElem hk] at hs
      rw [Option.some.inj hs]
    conv => lhs; rw [← List.take_append_drop (k - u) (l.drop u), List.drop_drop, show u + (k - u) = k by omega, h1]
  have hno : noSp ((l.drop u).take (k - u)) := fun c hc => by
    obtain ⟨j, hj, rfl⟩ := List.getElem_of_mem hc
    simp at hj
    intro e
    apply hn (u + j) (by omega) (by omega)
    rw [List.getElem_take, List.getElem_drop] at e
    rw [List.getElem?_eq_getElem (by omega), e]
  conv => lhs; rw [e]
  exact wordsL_sp hno
theorem words_end {l : List UInt8} {u : Nat} (hn : ∀ j, u ≤ j → j < l.length → l[j]? ≠ some 32) : wordsL (l.drop u) = [l.drop u] := by
  apply wordsL_no
  intro c hc e
  obtain ⟨j, hj, rfl⟩ := List.getElem_of_mem hc
  simp at hj
  apply hn (u + j) (by omega) (by omega)
  rw [List.getElem_drop] at e
  rw [List.getElem?_eq_getElem (by omega), e]
/-- What wordsOf answers. -/
def WordsPost (l : List UInt8) (w : World) (e : Ending) (w' : World) : Prop :=
  ∃ A c ws, e = .returned (.slice A ws.length c) ∧ lls ws = wordsL l ∧ w'.ownsRow w.heap.size 9 1 (.slice A ws.length c) ws.length (ws.map Value.string) ∧ Below w.heap.size w w'
theorem lls_snoc (ws : List ByteArray) (x : ByteArray) : lls (ws ++ [x]) = lls ws ++ [x.data.toList] := by simp [lls]
set_option maxRecDepth 100000 in
set_option maxHeartbeats 4000000 in
theorem wordsOf_any (s : ByteArray) (hz : s.size ≤ 4000) (w : World) :
    Calls Tryd.prog 98 #[.string s] w (WordsPost s.data.toList w) := by
  obtain ⟨l, hl⟩ : ∃ l, l = s.data.toList := ⟨_, rfl⟩
  have hll : l.length = s.size := by rw [hl]; exact dl_lenR s
  have hts : (s.size : Int) ≤ 9223372036854775807 := by omega
  rw [← hl]
  go_enter Tryd.func98, Tryd.ntmps98
  go_wp2_with fail
  go_loopw [3, 4, 5] (fun V f i wr => ∃ (k u : Nat) (ws : List ByteArray), k ≤ s.size + 1 ∧ i = .int .i64 (k : Int) ∧ f = .int .i64 (u : Int) ∧ u ≤ k ∧ ws.length ≤ k ∧ Hid (k ≤ s.size → wordsL l = lls ws ++ wordsL (l.drop u) ∧ ∀ j, u ≤ j → j < k → l[j]? ≠ some 32) ∧ Hid (k = s.size + 1 → wordsL l = lls ws) ∧ Hid (wr.ownsRow w.heap.size 9 1 V ws.length (ws.map Value.string)) ∧ Hid (Below w.heap.size w wr)) (fun _ _ i _ => s.size + 1 - (intOf i).toNat)
  case atStart => exact ⟨0, 0, [], by omega, rfl, rfl, Nat.le_refl _, Nat.le_refl _, fun _ => ⟨by simp [lls], fun j _ h => absurd h (Nat.not_lt_zero _)⟩, fun h => by omega, World.ownsRow_nil _ _ _ _, Below.refl _ _⟩
  case round =>
    obtain ⟨k, u, ws, hk, rfl, rfl, huk, hwk, HI, HF, HO, HB⟩ := hrel
    obtain ⟨A, c, rfl⟩ := own_slice HO.out
    by_cases hkn : k ≤ s.size
    · have hkni : (k : Int) ≤ (s.size : Int) := by omega
      obtain ⟨hw1, hw2⟩ := HI.out hkn
      have HL := Lib.hid hl
      have HW1 := Lib.hid hw1
      have HW2 := Lib.hid hw2
      clear hw1 hw2 HI HF
      have stp : ∀ (hlast : k = s.size ∨ ∃ h : k < s.size, s[k] = 32), ∃ x : ByteArray, s.extract u k = x ∧ (k + 1 ≤ s.size → wordsL l = lls (ws ++ [x]) ++ wordsL (l.drop (k + 1))) ∧ (k + 1 = s.size + 1 → wordsL l = lls (ws ++ [x])) := by
        intro hlast
        refine ⟨_, rfl, fun h => ?_, fun h => ?_⟩
        · rcases hlast with h1 | ⟨h1, h2⟩
          · omega
          · rw [HW1.out, lls_snoc, ext_data s u k hkn, ← HL.out, words_cut huk (by omega) (by rw [List.getElem?_eq_getElem (by omega), ← h2]; subst hl; rfl) HW2.out]
            simp
        · have hks : k = s.size := by omega
          rw [HW1.out, lls_snoc, ext_data s u k hkn, ← HL.out, words_end (fun j h1 h2 => HW2.out j h1 (by omega))]
          rw [List.take_of_length_le (by simp; omega)]
      have hU := Tryd.underlying33
      obtain ⟨j0, hi0, hz0, hz1, hz2⟩ := info_parts info_StrR
      have hui : (u : Int) ≤ (k : Int) := by omega
      by_cases hlast : k = s.size ∨ ∃ h : k < s.size, s[k] = 32
      · obtain ⟨x, hx, hx1, hx2⟩ := stp hlast
        have HX1 := Lib.hid hx1
        have HX2 := Lib.hid hx2
        clear stp hx1 hx2
        have hb4 := HB.out.alloc HB.out.size (.cells #[.string x] 9)
        have ho4 := own_below HO.out ((Below.refl wr.heap.size wr).alloc (Nat.le_refl _) (.cells #[.string x] 9))
        have hxr := (Blk.new wr 9 #[.string x]).rd 1 1 (by simp)
        have FIN : Hid (∀ (V : Value) (W : World), W.ownsRow w.heap.size 9 1 V (ws.length + 1) (ws.map Value.string ++ [.string x]) → W.ownsRow w.heap.size 9 1 V (ws ++ [x]).length ((ws ++ [x]).map Value.string)) := fun V W h => by
          rw [List.length_append, List.map_append]
          exact h
        rcases hlast with hks | ⟨hks, h32⟩
        · have hke : ((k : Int) == (s.size : Int)) = true := by rw [hks]; simp
          have hx' : s.extract u s.size = x := by rw [← hks]; exact hx
          go_wp2_with (at_builtin; (refine wpList_append_rd _ rfl (.tmp 22) (.tmp 27) _ rfl w.heap.size 9 j0 _ 1 16 hU hi0 hz0 hz1 hz2 rfl (by omega) (.slice A ws.length c) ws.length (ws.map Value.string) rfl ho4 _ (some ⟨wr.heap.size, 0, none⟩) 1 1 [.string x] rfl hxr (fun v hv => by simp at hv; subst hv; rfl) ?len ?byt ?bas ?_); (case len => (unfold maxLen; omega)); (case byt => omega); (case bas => exact hb4.size); intro v5 w5 hv5 hg5 _; have hb5 := hb4.grown hg5 hb4.size (fun q hq => (ho4.lt q hq).1))
          exact ⟨⟨s.size + 1, s.size + 1, ws ++ [x], by omega, by go_num, by go_num, Nat.le_refl _, by simp; omega, fun h => by omega, fun h => HX2.out (by omega), FIN.out _ _ hv5, hb5⟩, by simp [intOf]; omega⟩
        · have hke : ((k : Int) == (s.size : Int)) = false := by rw [beq_eq_false_iff_ne]; omega
          have hki : (k : Int) < (s.size : Int) := by omega
          go_wp2_with (at_builtin; (refine wpList_append_rd _ rfl (.tmp 22) (.tmp 27) _ rfl w.heap.size 9 j0 _ 1 16 hU hi0 hz0 hz1 hz2 rfl (by omega) (.slice A ws.length c) ws.length (ws.map Value.string) rfl ho4 _ (some ⟨wr.heap.size, 0, none⟩) 1 1 [.string x] rfl hxr (fun v hv => by simp at hv; subst hv; rfl) ?len ?byt ?bas ?_); (case len => (unfold maxLen; omega)); (case byt => omega); (case bas => exact hb4.size); intro v5 w5 hv5 hg5 _; have hb5 := hb4.grown hg5 hb4.size (fun q hq => (ho4.lt q hq).1))
          exact ⟨⟨k + 1, k + 1, ws ++ [x], by omega, by go_num, by go_num, Nat.le_refl _, by simp; omega, fun h => ⟨HX1.out (by omega), fun j h1 h2 => absurd h2 (by omega)⟩, fun h => HX2.out (by omega), FIN.out _ _ hv5, hb5⟩, by simp [intOf]; omega⟩
      · have hks : k < s.size := by
          rcases Nat.lt_or_ge k s.size with h | h
          · exact h
          · exact absurd (.inl (by omega)) hlast
        have h32 : ¬ s[k] = 32 := fun h => hlast (.inr ⟨hks, h⟩)
        have hke : ((k : Int) == (s.size : Int)) = false := by rw [beq_eq_false_iff_ne]; omega
        have hki : (k : Int) < (s.size : Int) := by omega
        have hcb : ((((s[k]).toNat : Nat) : Int) == 32) = false := by
          rw [beq_eq_false_iff_ne]
          intro e
          apply h32
          apply UInt8.toNat_inj.1
          show _ = 32
          omega
        have HN : Hid (∀ j, u ≤ j → j < k + 1 → l[j]? ≠ some 32) := fun j h1 h2 => by
          rcases Nat.lt_or_ge j k with h | h
          · exact HW2.out j h1 h
          · obtain rfl : j = k := by omega
            rw [List.getElem?_eq_getElem (by omega)]
            intro e
            apply h32
            have e := Option.some.inj e
            rw [← e]
            subst hl
            rfl
        clear stp hlast
        go_wp2_with fail
        exact ⟨⟨k + 1, u, ws, by omega, by go_num, rfl, by omega, by omega, fun h => ⟨HW1.out, HN.out⟩, fun h => by omega, HO.out, HB.out⟩, by simp [intOf]; omega⟩
    · obtain rfl : k = s.size + 1 := by omega
      have hkni : ¬ ((s.size + 1 : Nat) : Int) ≤ (s.size : Int) := by omega
      have HW := Lib.hid (HF.out rfl)
      clear HI HF hl
      go_wp2
      go_ret
      exact ⟨A, c, ws, rfl, HW.out.symm, HO.out, HB.out⟩
end Go.Proofs.YtdjamdbamkhblacDoor
