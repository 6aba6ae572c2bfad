/- The walk of code.Show: what it returns, for every code. Condition: the listed tables. -/
import Derived.Test.YtdjamdbamkhblacDoorBuild
import Derived.Test.YtdjamdbamkhblacDoorTabs
import Derived.Laws.Concat
import Derived.Test.YtdjamdbamkhblacDoorShelfC
namespace Go.Proofs.YtdjamdbamkhblacDoor
open Go.RowKit
set_option linter.unusedVariables false
set_option linter.unusedSimpArgs false
theorem Itoa_any (n : Nat) (hn : n ≤ 65535) (w : World) (ht : TabW w) :
    Calls Tryd.prog 64 #[.int .i64 (n : Int)] w fun e w' => e = .returned (.string ⟨(decL n).toArray⟩) ∧ Below w.heap.size w w' := by
  refine (Tryd.strconv_Itoa (n : Int) (by omega) (by omega) w ht.2).mono ?_
  rintro e w' ⟨rfl, k, os, rfl⟩
  refine ⟨?_, below_grew w k os⟩
  have : Lib.itoa (n : Int) = decL n := by
    unfold Lib.itoa
    rw [if_neg (by omega), Int.toNat_natCast, decL_lib]
  rw [this]
theorem IsB.below {B b : Nat} {l : List UInt8} {w w' : World} (h : IsB B b l w) (hb : Below w.heap.size w w') : IsB B b l w' := by
  have key : ∀ p, Lib.BuilderAt 115 5 B b p (Lib.byteCells l) w → Lib.BuilderAt 115 5 B b p (Lib.byteCells l) w' := by
    rintro p ⟨h1, v, h2, h3, h4⟩
    have hlt : b < w.heap.size := (Array.getElem?_eq_some_iff.1 h2).1
    exact ⟨h1, v, (hb.block b hlt).trans h2, own_below h3 hb, h4⟩
  rcases h with h | h
  · exact .inl (key _ h)
  · exact .inr (key _ h)
theorem IsB.lt {B b : Nat} {l : List UInt8} {w : World} (h : IsB B b l w) : b < w.heap.size := by
  rcases h with ⟨_, v, h2, _⟩ | ⟨_, v, h2, _⟩
  · exact (Array.getElem?_eq_some_iff.1 h2).1
  · exact (Array.getElem?_eq_some_iff.1 h2).1
theorem showT_snoc (l : List Ins) (k : Nat) (hk : k < l.length) : showT (l.take (k + 1)) = showT (l.take k) ++ lineT l[k] ++ [10] := by
  rw [List.take_succ_eq_append_getElem hk, showT, List.flatMap_append]
  simp [showT, insT, List.append_assoc]
theorem decL_sz (n : Nat) (h : n ≤ 65535) : (⟨(decL n).toArray⟩ : ByteArray).size ≤ 5 := by
  have := decL_len (n := n) (k := 4) (by omega)
  show (decL n).toArray.size ≤ 5
  simpa using this
theorem grtN_le (c : UInt8) : grtN c ≤ 65535 := by
  unfold grtN
  repeat' split
  all_goals omega
theorem shl_parts {q : Nat} (h1 : 1 ≤ q) (h2 : q ≤ 15) (h3 : (shp q).size = 3) : ∃ s0 s1 s2 : UInt8, shL q = [s0, s1, s2] ∧ ((shp q)[0]'(by omega)) = s0 ∧ ((shp q)[1]'(by omega)) = s1 ∧ ((shp q)[2]'(by omega)) = s2 ∧
    (s0 = 114 ∨ s0 = 45 ∨ s0 = 119 ∨ s0 = 112) ∧ (s1 = 114 ∨ s1 = 45 ∨ s1 = 119 ∨ s1 = 112) ∧ (s2 = 114 ∨ s2 = 45 ∨ s2 = 119 ∨ s2 = 112) := by
  rcases q_cases h1 h2 with h | h | h | h | h | h | h | h | h | h | h | h | h | h | h <;> subst h <;> exact ⟨_, _, _, rfl, rfl, rfl, rfl, by decide, by decide, by decide⟩
/-- What code.Show answers. -/
def showV (l : List Ins) : Value := .tuple #[.string ⟨(if check l = 0 then showT l else []).toArray⟩, .int .i64 (check l)]
set_option maxRecDepth 100000 in
set_option maxHeartbeats 4000000 in
theorem Show_any (A : Option Addr) (c : Nat) (l : List Ins) (w : World) (hr : RdI w w.heap.size A l) (ht : TabT w) (hl : l.length ≤ maxLen) :
    Calls Tryd.prog 26 #[.slice A l.length c] w fun e w' => e = .returned (showV l) ∧ Below w.heap.size w w' := by
  have HCK := Lib.hid (Check_any A c l w hr ht.1 hl)
  have HR := Lib.hid hr
  have HT := Lib.hid ht
  have hl' : (l.length : Int) ≤ 9223372036854775807 := by unfold maxLen at hl; omega
  clear hr ht hl
  go_enter Tryd.func26, Tryd.ntmps26
  go_wp2_with fail
  refine HCK.out.mono ?_
  rintro e w1 ⟨rfl, hb1⟩
  clear HCK
  by_cases hk : check l ≠ 0
  · have hne : (check l != 0) = true := by rw [bne_iff_ne]; exact hk
    have HV : Hid (showV l = .tuple #[.string ⟨#[]⟩, .int .i64 (check l)]) := by show _ = _; unfold showV; rw [if_neg hk]
    have HB := Lib.hid hb1
    clear hk hb1
    go_wp2
    go_ret2
    exact ⟨by rw [HV.out]; rfl, HB.out⟩
  have hk := Decidable.not_not.1 hk
  have HV : Hid (showV l = .tuple #[.string ⟨(showT l).toArray⟩, .int .i64 0]) := by show _ = _; unfold showV; rw [hk, if_pos rfl]
  have h200 : l.length ≤ 200 := by
    unfold check at hk
    split at hk
    · cases hk
    · omega
  have HK := Lib.hid (chk_insK.1 (by unfold check at hk; rwa [if_neg (by omega)] at hk))
  rw [hk]
  clear hk
  have HI := Lib.hid (Lib.fresh_isBuilder 115 5 w1)
  have HBW : Hid (Below w.heap.size w (w1.alloc (.cells #[.pointer none, .slice none 0 0] 115))) := hb1.alloc hb1.size _
  have hw1 := hb1.size
  clear hb1
  go_upto_region 5 with fail
  refine (show ∀ W : World, IsB w1.heap.size w1.heap.size [] W → Below w.heap.size w W → Code.wp _ _ _ _ W from ?_) _ HI.out HBW.out
  clear HI HBW
  intro W2 hi2 hb2
  have H2 := Lib.hid (show IsB w1.heap.size w1.heap.size [] W2 ∧ Below w.heap.size w W2 from ⟨hi2, hb2⟩)
  clear hi2 hb2
  go_wp2_with fail
  go_loopw [17] (fun i wr => Cnt l.length i fun k => IsB w1.heap.size w1.heap.size (showT (l.take k)) wr ∧ Below w.heap.size w wr) (fun i _ => l.length - (intOf i).toNat)
  case atStart => exact ⟨0, Nat.zero_le _, rfl, by simpa [showT] using H2.out.1, H2.out.2⟩
  case round =>
    clear H2
    obtain ⟨k, hk, rfl, hi, hb⟩ := hrel
    have HB := Lib.hid hb
    by_cases hlt : k < l.length
    · obtain ⟨⟨h1, h2⟩, hok⟩ := HK.out _ (List.getElem_mem hlt)
      obtain ⟨b, o, rfl, hbB, hcell⟩ := HR.out (by omega)
      obtain ⟨c0, c1, c2, c3⟩ := hcell k hlt
      have hbw := Nat.lt_of_lt_of_le hbB hb.size
      have c0 := (hb.cell (p := ⟨b, o + k * 4, none⟩) hbB).trans c0
      have c1 := (hb.cell (p := ⟨b, o + k * 4 + 1, none⟩) hbB).trans c1
      have c2 := (hb.cell (p := ⟨b, o + k * 4 + 2, none⟩) hbB).trans c2
      have c3 := (hb.cell (p := ⟨b, o + k * 4 + 3, none⟩) hbB).trans c3
      have HSN := Lib.hid (showT_snoc l k hlt)
      have HLEN := Lib.hid (show (showT (l.take k)).length ≤ 2800 from by
        have := showT_len (l := l.take k) (fun i hi => HK.out i (List.mem_of_mem_take hi))
        have h3 : (l.take k).length ≤ 200 := by simp; omega
        omega)
      obtain ⟨T0, hT0⟩ : ∃ T0, T0 = showT (l.take k) := ⟨_, rfl⟩
      have hokp := okI_parts h1 h2 hok
      obtain ⟨⟨q, hq⟩, ⟨na, hna⟩, ⟨nb, hnb⟩, ⟨nc, hnc⟩⟩ : (∃ q : Nat, l[k].op = q) ∧ (∃ n : Nat, l[k].a = n) ∧ (∃ n : Nat, l[k].b = n) ∧ (∃ n : Nat, l[k].c = n) := by
        unfold okI at hok
        simp at hok
        exact ⟨⟨l[k].op.toNat, by omega⟩, ⟨l[k].a.toNat, by omega⟩, ⟨l[k].b.toNat, by omega⟩, ⟨l[k].c.toNat, by omega⟩⟩
      have HLT : Hid (lineT l[k] = nmL q ++ partsT (shL q) [na, nb, nc]) := by show _ = _; unfold lineT; rw [hq, hna, hnb, hnc]; rfl
      have HLL := Lib.hid (lineT_len ⟨⟨h1, h2⟩, hok⟩)
      rw [hq, hna, hnb, hnc] at hokp
      rw [hq] at c0 h1 h2
      rw [hna] at c1
      rw [hnb] at c2
      rw [hnc] at c3
      rw [← hT0] at HSN HLEN hi
      simp only [Int.toNat_natCast] at hokp
      clear hok hcell hq hna hnb hnc hT0
      have hq1 : 1 ≤ q := by omega
      have hq15 : q ≤ 15 := by omega
      have hs3 : (shp q).size = 3 := shp_size hq1 hq15
      have HOK := Lib.hid hokp
      have hbl := hi.lt
      have HI := Lib.hid hi
      clear hokp hi
      have hba := (Below.refl wr.heap.size wr).alloc (Nat.le_refl _) (.cells #[.int .i64 q, .int .i64 na, .int .i64 nb, .int .i64 nc] 65)
      have HX0 := Lib.hid (Blk.new wr 65 #[.int .i64 q, .int .i64 na, .int .i64 nb, .int .i64 nc])
      go_upto_region 8 with fail
      refine (show ∀ W : World, IsB w1.heap.size w1.heap.size T0 W → Below w.heap.size w W → Blk W wr.heap.size 65 #[.int .i64 q, .int .i64 na, .int .i64 nb, .int .i64 nc] → Code.wp _ _ _ _ W from ?_) _ (HI.out.below hba) (HB.out.alloc HB.out.size _) HX0.out
      clear HI HX0 hba c0 c1 c2 c3 hbw
      intro W3 hi hb hx
      have HI := Lib.hid hi
      have HB3 := Lib.hid hb
      have HX := Lib.hid hx
      have hn := (HT.out.below hb).2.1
      have n0 := hn.2 q (by omega)
      have hn0 := hn.1
      have x0 := hx.cell 0
      have xl := hx.lt
      simp at x0
      have HW := Lib.hid (WriteS_any w1.heap.size w1.heap.size T0 ⟨(nmL q).toArray⟩ W3 hi (by have := HLEN.out; have := HLL.out; rw [HLT.out] at this; simp at this; show T0.length + (nmL q).toArray.size ≤ _; simp; omega) (by have := hi.lt; omega))
      clear hi hb hx hn
      go_wp2_with fail
      refine HW.out.mono ?_
      rintro e W4 ⟨rfl, hi, hb4, hk4⟩
      clear HW x0 xl n0 hn0
      have HI4 := Lib.hid hi
      have HX4 := Lib.hid (HX.out.keptB hk4 (by omega) (by decide))
      have HB4 := Lib.hid (HB3.out.trans (hb4.mono (by omega)))
      clear hi hb4 hk4 HX HI HB3
      obtain ⟨s0, s1, s2, hsl, hb0, hb1', hb2', k0, k1, k2⟩ := shl_parts hq1 hq15 hs3
      rw [hsl] at HOK HLT
      obtain ⟨m0, m1, m2, -⟩ := HOK.out
      have HSL := Lib.hid HLT.out
      have M := Lib.hid (show na ≤ 65535 ∧ nb ≤ 65535 ∧ nc ≤ 65535 from ⟨Nat.le_trans m0 (grtN_le _), Nat.le_trans m1 (grtN_le _), Nat.le_trans m2 (grtN_le _)⟩)
      have HLL2 : Hid ((nmL q ++ partsT [s0, s1, s2] [na, nb, nc]).length ≤ 13) := by show _ ≤ _; rw [← HLT.out]; exact HLL.out
      clear HOK HLT HLL m0 m1 m2 hsl
      have x1 := HX4.out.cell 1
      have x2 := HX4.out.cell 2
      have x3 := HX4.out.cell 3
      have xl := HX4.out.lt
      simp at x1 x2 x3
      have hbn := (Below.refl W4.heap.size W4).alloc (Nat.le_refl _) (.cells #[.int .i64 na, .int .i64 nb, .int .i64 nc] 3)
      have HX5 := Lib.hid (HX4.out.alloc (.cells #[.int .i64 na, .int .i64 nb, .int .i64 nc] 3))
      have HY5 := Lib.hid (Blk.new W4 3 #[.int .i64 na, .int .i64 nb, .int .i64 nc])
      have HI5 := Lib.hid (HI4.out.below hbn)
      have HB5 := Lib.hid (HB4.out.alloc HB4.out.size (.cells #[.int .i64 na, .int .i64 nb, .int .i64 nc] 3))
      have hbw4 : w1.heap.size < W4.heap.size := HI4.out.lt
      have hbw5 : wr.heap.size < W4.heap.size := xl
      clear hbn HX4 HI4 HB4
      go_wp2_with fail
      clear x1 x2 x3 xl
      go_loopw [34] (fun i wq => Cnt 3 i fun j => IsB w1.heap.size w1.heap.size (T0 ++ nmL q ++ partsT ([s0, s1, s2].take j) ([na, nb, nc].take j)) wq ∧ Blk wq wr.heap.size 65 #[.int .i64 q, .int .i64 na, .int .i64 nb, .int .i64 nc] ∧ Blk wq W4.heap.size 3 #[.int .i64 na, .int .i64 nb, .int .i64 nc] ∧ Below w.heap.size w wq) (fun i _ => 3 - (intOf i).toNat)
      case atStart => exact ⟨0, by omega, rfl, by simpa [partsT] using HI5.out, HX5.out, HY5.out, HB5.out⟩
      case round =>
        clear HX5 HY5 HI5 HB5
        obtain ⟨j, hj, rfl, hi, hx, hy, hb⟩ := hrel
        by_cases hj3 : j < 3
        · have HI := Lib.hid hi
          have HX := Lib.hid hx
          have HY := Lib.hid hy
          have HB6 := Lib.hid hb
          have ht := (HT.out.below hb).1
          have tq := ht.2 q (by omega)
          have tg := ht.1
          have hx0 := hx.cell 0
          have hxl := hx.lt
          have y0 := hy.cell 0
          have y1 := hy.cell 1
          have y2 := hy.cell 2
          have yl := hy.lt
          simp at hx0 y0 y1 y2
          clear hi hx hy hb ht hj
          have hj' : j = 0 ∨ j = 1 ∨ j = 2 := by omega
          clear hj3
          rcases hj' with rfl | rfl | rfl
          · rcases k0 with h | h | h | h
            · subst h
              clear hb1' hb2'
              have HIT := fun (W : World) (h : TabW W) => Itoa_any na (by have := M.out; omega) W h
              have HIT' := Lib.hid HIT
              clear HIT
              go_wp2_with fail
              refine (HIT'.out _ (HT.out.below HB6.out).2.2).mono ?_
              rintro e W7 ⟨rfl, hb7⟩
              have hadd := run_string_add_sum (P := Tryd.prog) W7 ⟨#[32, 114]⟩ ⟨(decL na).toArray⟩ (by have := decL_sz na (by have := M.out; omega); have e : (⟨#[32, 114]⟩ : ByteArray).size ≤ 2 := (by decide); omega)
              have hi7 := HI.out.below hb7
              have HX7 := Lib.hid (HX.out.below hb7 HX.out.lt)
              have HY7 := Lib.hid (HY.out.below hb7 HY.out.lt)
              have HB7 := Lib.hid (HB6.out.trans (hb7.mono HB6.out.size))
              have HW := Lib.hid (WriteS_any w1.heap.size w1.heap.size (T0 ++ nmL q ++ partsT ([114, s1, s2].take 0) ([na, nb, nc].take 0)) (⟨#[32, 114]⟩ ++ ⟨(decL na).toArray⟩) W7 hi7 (by have h1 := HLL2.out; have h2 := HLEN.out; have h3 := decL_sz na (by have := M.out; omega); have e : (⟨#[32, 114]⟩ : ByteArray).size ≤ 2 := (by decide); rw [ByteArray.size_append]; simp [partsT, partT] at h1 ⊢; omega) (by have := hi7.lt; omega))
              clear HI HX HY HB6 hb7 hi7 HIT' hx0 hxl y0 y1 y2 yl tq tg
              go_wp2_with fail
              refine HW.out.mono ?_
              rintro e W8 ⟨rfl, hi8, hb8, hk8⟩
              clear HW hadd
              have HI8 := Lib.hid hi8
              have HX8 := Lib.hid (HX7.out.keptB hk8 (by omega) (by decide))
              have HY8 := Lib.hid (HY7.out.keptB hk8 (by omega) (by decide))
              have HB8 := Lib.hid (HB7.out.trans (hb8.mono (by omega)))
              clear hi8 hb8 hk8 HX7 HY7 HB7
              go_wp2_with fail
              exact ⟨⟨1, by omega, by go_num, by have := HI8.out; simpa [partsT, partT] using this, HX8.out, HY8.out, HB8.out⟩, by simp [intOf]⟩
            · subst h
              clear hb1' hb2'
              go_wp2_with fail
              exact ⟨⟨1, by omega, by go_num, by have := HI.out; simpa [partsT, partT] using this, HX.out, HY.out, HB6.out⟩, by simp [intOf]⟩
            · subst h
              clear hb1' hb2'
              have HIT := fun (W : World) (h : TabW W) => Itoa_any na (by have := M.out; omega) W h
              have HIT' := Lib.hid HIT
              clear HIT
              go_wp2_with fail
              refine (HIT'.out _ (HT.out.below HB6.out).2.2).mono ?_
              rintro e W7 ⟨rfl, hb7⟩
              have hadd := run_string_add_sum (P := Tryd.prog) W7 ⟨#[32]⟩ ⟨(decL na).toArray⟩ (by have := decL_sz na (by have := M.out; omega); have e : (⟨#[32]⟩ : ByteArray).size ≤ 2 := (by decide); omega)
              have hi7 := HI.out.below hb7
              have HX7 := Lib.hid (HX.out.below hb7 HX.out.lt)
              have HY7 := Lib.hid (HY.out.below hb7 HY.out.lt)
              have HB7 := Lib.hid (HB6.out.trans (hb7.mono HB6.out.size))
              have HW := Lib.hid (WriteS_any w1.heap.size w1.heap.size (T0 ++ nmL q ++ partsT ([119, s1, s2].take 0) ([na, nb, nc].take 0)) (⟨#[32]⟩ ++ ⟨(decL na).toArray⟩) W7 hi7 (by have h1 := HLL2.out; have h2 := HLEN.out; have h3 := decL_sz na (by have := M.out; omega); have e : (⟨#[32]⟩ : ByteArray).size ≤ 2 := (by decide); rw [ByteArray.size_append]; simp [partsT, partT] at h1 ⊢; omega) (by have := hi7.lt; omega))
              clear HI HX HY HB6 hb7 hi7 HIT' hx0 hxl y0 y1 y2 yl tq tg
              go_wp2_with fail
              refine HW.out.mono ?_
              rintro e W8 ⟨rfl, hi8, hb8, hk8⟩
              clear HW hadd
              have HI8 := Lib.hid hi8
              have HX8 := Lib.hid (HX7.out.keptB hk8 (by omega) (by decide))
              have HY8 := Lib.hid (HY7.out.keptB hk8 (by omega) (by decide))
              have HB8 := Lib.hid (HB7.out.trans (hb8.mono (by omega)))
              clear hi8 hb8 hk8 HX7 HY7 HB7
              go_wp2_with fail
              exact ⟨⟨1, by omega, by go_num, by have := HI8.out; simpa [partsT, partT] using this, HX8.out, HY8.out, HB8.out⟩, by simp [intOf]⟩
            · subst h
              clear hb1' hb2'
              have HIT := fun (W : World) (h : TabW W) => Itoa_any na (by have := M.out; omega) W h
              have HIT' := Lib.hid HIT
              clear HIT
              go_wp2_with fail
              refine (HIT'.out _ (HT.out.below HB6.out).2.2).mono ?_
              rintro e W7 ⟨rfl, hb7⟩
              have hadd := run_string_add_sum (P := Tryd.prog) W7 ⟨#[32]⟩ ⟨(decL na).toArray⟩ (by have := decL_sz na (by have := M.out; omega); have e : (⟨#[32]⟩ : ByteArray).size ≤ 2 := (by decide); omega)
              have hi7 := HI.out.below hb7
              have HX7 := Lib.hid (HX.out.below hb7 HX.out.lt)
              have HY7 := Lib.hid (HY.out.below hb7 HY.out.lt)
              have HB7 := Lib.hid (HB6.out.trans (hb7.mono HB6.out.size))
              have HW := Lib.hid (WriteS_any w1.heap.size w1.heap.size (T0 ++ nmL q ++ partsT ([112, s1, s2].take 0) ([na, nb, nc].take 0)) (⟨#[32]⟩ ++ ⟨(decL na).toArray⟩) W7 hi7 (by have h1 := HLL2.out; have h2 := HLEN.out; have h3 := decL_sz na (by have := M.out; omega); have e : (⟨#[32]⟩ : ByteArray).size ≤ 2 := (by decide); rw [ByteArray.size_append]; simp [partsT, partT] at h1 ⊢; omega) (by have := hi7.lt; omega))
              clear HI HX HY HB6 hb7 hi7 HIT' hx0 hxl y0 y1 y2 yl tq tg
              go_wp2_with fail
              refine HW.out.mono ?_
              rintro e W8 ⟨rfl, hi8, hb8, hk8⟩
              clear HW hadd
              have HI8 := Lib.hid hi8
              have HX8 := Lib.hid (HX7.out.keptB hk8 (by omega) (by decide))
              have HY8 := Lib.hid (HY7.out.keptB hk8 (by omega) (by decide))
              have HB8 := Lib.hid (HB7.out.trans (hb8.mono (by omega)))
              clear hi8 hb8 hk8 HX7 HY7 HB7
              go_wp2_with fail
              exact ⟨⟨1, by omega, by go_num, by have := HI8.out; simpa [partsT, partT] using this, HX8.out, HY8.out, HB8.out⟩, by simp [intOf]⟩
          · rcases k1 with h | h | h | h
            · subst h
              clear hb0 hb2'
              have HIT := fun (W : World) (h : TabW W) => Itoa_any nb (by have := M.out; omega) W h
              have HIT' := Lib.hid HIT
              clear HIT
              go_wp2_with fail
              refine (HIT'.out _ (HT.out.below HB6.out).2.2).mono ?_
              rintro e W7 ⟨rfl, hb7⟩
              have hadd := run_string_add_sum (P := Tryd.prog) W7 ⟨#[32, 114]⟩ ⟨(decL nb).toArray⟩ (by have := decL_sz nb (by have := M.out; omega); have e : (⟨#[32, 114]⟩ : ByteArray).size ≤ 2 := (by decide); omega)
              have hi7 := HI.out.below hb7
              have HX7 := Lib.hid (HX.out.below hb7 HX.out.lt)
              have HY7 := Lib.hid (HY.out.below hb7 HY.out.lt)
              have HB7 := Lib.hid (HB6.out.trans (hb7.mono HB6.out.size))
              have HW := Lib.hid (WriteS_any w1.heap.size w1.heap.size (T0 ++ nmL q ++ partsT ([s0, 114, s2].take 1) ([na, nb, nc].take 1)) (⟨#[32, 114]⟩ ++ ⟨(decL nb).toArray⟩) W7 hi7 (by have h1 := HLL2.out; have h2 := HLEN.out; have h3 := decL_sz nb (by have := M.out; omega); have e : (⟨#[32, 114]⟩ : ByteArray).size ≤ 2 := (by decide); rw [ByteArray.size_append]; simp [partsT, partT] at h1 ⊢; omega) (by have := hi7.lt; omega))
              clear HI HX HY HB6 hb7 hi7 HIT' hx0 hxl y0 y1 y2 yl tq tg
              go_wp2_with fail
              refine HW.out.mono ?_
              rintro e W8 ⟨rfl, hi8, hb8, hk8⟩
              clear HW hadd
              have HI8 := Lib.hid hi8
              have HX8 := Lib.hid (HX7.out.keptB hk8 (by omega) (by decide))
              have HY8 := Lib.hid (HY7.out.keptB hk8 (by omega) (by decide))
              have HB8 := Lib.hid (HB7.out.trans (hb8.mono (by omega)))
              clear hi8 hb8 hk8 HX7 HY7 HB7
              go_wp2_with fail
              exact ⟨⟨2, by omega, by go_num, by have := HI8.out; simpa [partsT, partT] using this, HX8.out, HY8.out, HB8.out⟩, by simp [intOf]⟩
            · subst h
              clear hb0 hb2'
              go_wp2_with fail
              exact ⟨⟨2, by omega, by go_num, by have := HI.out; simpa [partsT, partT] using this, HX.out, HY.out, HB6.out⟩, by simp [intOf]⟩
            · subst h
              clear hb0 hb2'
              have HIT := fun (W : World) (h : TabW W) => Itoa_any nb (by have := M.out; omega) W h
              have HIT' := Lib.hid HIT
              clear HIT
              go_wp2_with fail
              refine (HIT'.out _ (HT.out.below HB6.out).2.2).mono ?_
              rintro e W7 ⟨rfl, hb7⟩
              have hadd := run_string_add_sum (P := Tryd.prog) W7 ⟨#[32]⟩ ⟨(decL nb).toArray⟩ (by have := decL_sz nb (by have := M.out; omega); have e : (⟨#[32]⟩ : ByteArray).size ≤ 2 := (by decide); omega)
              have hi7 := HI.out.below hb7
              have HX7 := Lib.hid (HX.out.below hb7 HX.out.lt)
              have HY7 := Lib.hid (HY.out.below hb7 HY.out.lt)
              have HB7 := Lib.hid (HB6.out.trans (hb7.mono HB6.out.size))
              have HW := Lib.hid (WriteS_any w1.heap.size w1.heap.size (T0 ++ nmL q ++ partsT ([s0, 119, s2].take 1) ([na, nb, nc].take 1)) (⟨#[32]⟩ ++ ⟨(decL nb).toArray⟩) W7 hi7 (by have h1 := HLL2.out; have h2 := HLEN.out; have h3 := decL_sz nb (by have := M.out; omega); have e : (⟨#[32]⟩ : ByteArray).size ≤ 2 := (by decide); rw [ByteArray.size_append]; simp [partsT, partT] at h1 ⊢; omega) (by have := hi7.lt; omega))
              clear HI HX HY HB6 hb7 hi7 HIT' hx0 hxl y0 y1 y2 yl tq tg
              go_wp2_with fail
              refine HW.out.mono ?_
              rintro e W8 ⟨rfl, hi8, hb8, hk8⟩
              clear HW hadd
              have HI8 := Lib.hid hi8
              have HX8 := Lib.hid (HX7.out.keptB hk8 (by omega) (by decide))
              have HY8 := Lib.hid (HY7.out.keptB hk8 (by omega) (by decide))
              have HB8 := Lib.hid (HB7.out.trans (hb8.mono (by omega)))
              clear hi8 hb8 hk8 HX7 HY7 HB7
              go_wp2_with fail
              exact ⟨⟨2, by omega, by go_num, by have := HI8.out; simpa [partsT, partT] using this, HX8.out, HY8.out, HB8.out⟩, by simp [intOf]⟩
            · subst h
              clear hb0 hb2'
              have HIT := fun (W : World) (h : TabW W) => Itoa_any nb (by have := M.out; omega) W h
              have HIT' := Lib.hid HIT
              clear HIT
              go_wp2_with fail
              refine (HIT'.out _ (HT.out.below HB6.out).2.2).mono ?_
              rintro e W7 ⟨rfl, hb7⟩
              have hadd := run_string_add_sum (P := Tryd.prog) W7 ⟨#[32]⟩ ⟨(decL nb).toArray⟩ (by have := decL_sz nb (by have := M.out; omega); have e : (⟨#[32]⟩ : ByteArray).size ≤ 2 := (by decide); omega)
              have hi7 := HI.out.below hb7
              have HX7 := Lib.hid (HX.out.below hb7 HX.out.lt)
              have HY7 := Lib.hid (HY.out.below hb7 HY.out.lt)
              have HB7 := Lib.hid (HB6.out.trans (hb7.mono HB6.out.size))
              have HW := Lib.hid (WriteS_any w1.heap.size w1.heap.size (T0 ++ nmL q ++ partsT ([s0, 112, s2].take 1) ([na, nb, nc].take 1)) (⟨#[32]⟩ ++ ⟨(decL nb).toArray⟩) W7 hi7 (by have h1 := HLL2.out; have h2 := HLEN.out; have h3 := decL_sz nb (by have := M.out; omega); have e : (⟨#[32]⟩ : ByteArray).size ≤ 2 := (by decide); rw [ByteArray.size_append]; simp [partsT, partT] at h1 ⊢; omega) (by have := hi7.lt; omega))
              clear HI HX HY HB6 hb7 hi7 HIT' hx0 hxl y0 y1 y2 yl tq tg
              go_wp2_with fail
              refine HW.out.mono ?_
              rintro e W8 ⟨rfl, hi8, hb8, hk8⟩
              clear HW hadd
              have HI8 := Lib.hid hi8
              have HX8 := Lib.hid (HX7.out.keptB hk8 (by omega) (by decide))
              have HY8 := Lib.hid (HY7.out.keptB hk8 (by omega) (by decide))
              have HB8 := Lib.hid (HB7.out.trans (hb8.mono (by omega)))
              clear hi8 hb8 hk8 HX7 HY7 HB7
              go_wp2_with fail
              exact ⟨⟨2, by omega, by go_num, by have := HI8.out; simpa [partsT, partT] using this, HX8.out, HY8.out, HB8.out⟩, by simp [intOf]⟩
          · rcases k2 with h | h | h | h
            · subst h
              clear hb0 hb1'
              have HIT := fun (W : World) (h : TabW W) => Itoa_any nc (by have := M.out; omega) W h
              have HIT' := Lib.hid HIT
              clear HIT
              go_wp2_with fail
              refine (HIT'.out _ (HT.out.below HB6.out).2.2).mono ?_
              rintro e W7 ⟨rfl, hb7⟩
              have hadd := run_string_add_sum (P := Tryd.prog) W7 ⟨#[32, 114]⟩ ⟨(decL nc).toArray⟩ (by have := decL_sz nc (by have := M.out; omega); have e : (⟨#[32, 114]⟩ : ByteArray).size ≤ 2 := (by decide); omega)
              have hi7 := HI.out.below hb7
              have HX7 := Lib.hid (HX.out.below hb7 HX.out.lt)
              have HY7 := Lib.hid (HY.out.below hb7 HY.out.lt)
              have HB7 := Lib.hid (HB6.out.trans (hb7.mono HB6.out.size))
              have HW := Lib.hid (WriteS_any w1.heap.size w1.heap.size (T0 ++ nmL q ++ partsT ([s0, s1, 114].take 2) ([na, nb, nc].take 2)) (⟨#[32, 114]⟩ ++ ⟨(decL nc).toArray⟩) W7 hi7 (by have h1 := HLL2.out; have h2 := HLEN.out; have h3 := decL_sz nc (by have := M.out; omega); have e : (⟨#[32, 114]⟩ : ByteArray).size ≤ 2 := (by decide); rw [ByteArray.size_append]; simp [partsT, partT] at h1 ⊢; omega) (by have := hi7.lt; omega))
              clear HI HX HY HB6 hb7 hi7 HIT' hx0 hxl y0 y1 y2 yl tq tg
              go_wp2_with fail
              refine HW.out.mono ?_
              rintro e W8 ⟨rfl, hi8, hb8, hk8⟩
              clear HW hadd
              have HI8 := Lib.hid hi8
              have HX8 := Lib.hid (HX7.out.keptB hk8 (by omega) (by decide))
              have HY8 := Lib.hid (HY7.out.keptB hk8 (by omega) (by decide))
              have HB8 := Lib.hid (HB7.out.trans (hb8.mono (by omega)))
              clear hi8 hb8 hk8 HX7 HY7 HB7
              go_wp2_with fail
              exact ⟨⟨3, by omega, by go_num, by have := HI8.out; simpa [partsT, partT] using this, HX8.out, HY8.out, HB8.out⟩, by simp [intOf]⟩
            · subst h
              clear hb0 hb1'
              go_wp2_with fail
              exact ⟨⟨3, by omega, by go_num, by have := HI.out; simpa [partsT, partT] using this, HX.out, HY.out, HB6.out⟩, by simp [intOf]⟩
            · subst h
              clear hb0 hb1'
              have HIT := fun (W : World) (h : TabW W) => Itoa_any nc (by have := M.out; omega) W h
              have HIT' := Lib.hid HIT
              clear HIT
              go_wp2_with fail
              refine (HIT'.out _ (HT.out.below HB6.out).2.2).mono ?_
              rintro e W7 ⟨rfl, hb7⟩
              have hadd := run_string_add_sum (P := Tryd.prog) W7 ⟨#[32]⟩ ⟨(decL nc).toArray⟩ (by have := decL_sz nc (by have := M.out; omega); have e : (⟨#[32]⟩ : ByteArray).size ≤ 2 := (by decide); omega)
              have hi7 := HI.out.below hb7
              have HX7 := Lib.hid (HX.out.below hb7 HX.out.lt)
              have HY7 := Lib.hid (HY.out.below hb7 HY.out.lt)
              have HB7 := Lib.hid (HB6.out.trans (hb7.mono HB6.out.size))
              have HW := Lib.hid (WriteS_any w1.heap.size w1.heap.size (T0 ++ nmL q ++ partsT ([s0, s1, 119].take 2) ([na, nb, nc].take 2)) (⟨#[32]⟩ ++ ⟨(decL nc).toArray⟩) W7 hi7 (by have h1 := HLL2.out; have h2 := HLEN.out; have h3 := decL_sz nc (by have := M.out; omega); have e : (⟨#[32]⟩ : ByteArray).size ≤ 2 := (by decide); rw [ByteArray.size_append]; simp [partsT, partT] at h1 ⊢; omega) (by have := hi7.lt; omega))
              clear HI HX HY HB6 hb7 hi7 HIT' hx0 hxl y0 y1 y2 yl tq tg
              go_wp2_with fail
              refine HW.out.mono ?_
              rintro e W8 ⟨rfl, hi8, hb8, hk8⟩
              clear HW hadd
              have HI8 := Lib.hid hi8
              have HX8 := Lib.hid (HX7.out.keptB hk8 (by omega) (by decide))
              have HY8 := Lib.hid (HY7.out.keptB hk8 (by omega) (by decide))
              have HB8 := Lib.hid (HB7.out.trans (hb8.mono (by omega)))
              clear hi8 hb8 hk8 HX7 HY7 HB7
              go_wp2_with fail
              exact ⟨⟨3, by omega, by go_num, by have := HI8.out; simpa [partsT, partT] using this, HX8.out, HY8.out, HB8.out⟩, by simp [intOf]⟩
            · subst h
              clear hb0 hb1'
              have HIT := fun (W : World) (h : TabW W) => Itoa_any nc (by have := M.out; omega) W h
              have HIT' := Lib.hid HIT
              clear HIT
              go_wp2_with fail
              refine (HIT'.out _ (HT.out.below HB6.out).2.2).mono ?_
              rintro e W7 ⟨rfl, hb7⟩
              have hadd := run_string_add_sum (P := Tryd.prog) W7 ⟨#[32]⟩ ⟨(decL nc).toArray⟩ (by have := decL_sz nc (by have := M.out; omega); have e : (⟨#[32]⟩ : ByteArray).size ≤ 2 := (by decide); omega)
              have hi7 := HI.out.below hb7
              have HX7 := Lib.hid (HX.out.below hb7 HX.out.lt)
              have HY7 := Lib.hid (HY.out.below hb7 HY.out.lt)
              have HB7 := Lib.hid (HB6.out.trans (hb7.mono HB6.out.size))
              have HW := Lib.hid (WriteS_any w1.heap.size w1.heap.size (T0 ++ nmL q ++ partsT ([s0, s1, 112].take 2) ([na, nb, nc].take 2)) (⟨#[32]⟩ ++ ⟨(decL nc).toArray⟩) W7 hi7 (by have h1 := HLL2.out; have h2 := HLEN.out; have h3 := decL_sz nc (by have := M.out; omega); have e : (⟨#[32]⟩ : ByteArray).size ≤ 2 := (by decide); rw [ByteArray.size_append]; simp [partsT, partT] at h1 ⊢; omega) (by have := hi7.lt; omega))
              clear HI HX HY HB6 hb7 hi7 HIT' hx0 hxl y0 y1 y2 yl tq tg
              go_wp2_with fail
              refine HW.out.mono ?_
              rintro e W8 ⟨rfl, hi8, hb8, hk8⟩
              clear HW hadd
              have HI8 := Lib.hid hi8
              have HX8 := Lib.hid (HX7.out.keptB hk8 (by omega) (by decide))
              have HY8 := Lib.hid (HY7.out.keptB hk8 (by omega) (by decide))
              have HB8 := Lib.hid (HB7.out.trans (hb8.mono (by omega)))
              clear hi8 hb8 hk8 HX7 HY7 HB7
              go_wp2_with fail
              exact ⟨⟨3, by omega, by go_num, by have := HI8.out; simpa [partsT, partT] using this, HX8.out, HY8.out, HB8.out⟩, by simp [intOf]⟩
        · obtain rfl : j = 3 := by omega
          have HI := Lib.hid hi
          have HB6 := Lib.hid hb
          have hlw := hi.lt
          have HW := Lib.hid (WriteS_any w1.heap.size w1.heap.size (T0 ++ nmL q ++ partsT ([s0, s1, s2].take 3) ([na, nb, nc].take 3)) ⟨#[10]⟩ _ hi (by have h1 := HLL2.out; have h2 := HLEN.out; simp at h1 ⊢; show _ + 1 ≤ _; omega) (by omega))
          clear hi hx hy hb hj hj3
          go_wp2_with fail
          refine HW.out.mono ?_
          rintro e W9 ⟨rfl, hi9, hb9, hk9⟩
          have HI9 := Lib.hid hi9
          have HB9 := Lib.hid (HB6.out.trans (hb9.mono (by omega)))
          clear HW hi9 hb9 hk9 HI HB6
          go_wp2_with fail
          refine ⟨⟨k + 1, by omega, by go_num, ?_, HB9.out⟩, by simp [intOf]; omega⟩
          rw [HSN.out, HSL.out]
          have := HI9.out
          simpa [List.append_assoc] using this
    · obtain rfl : k = l.length := by omega
      rw [List.take_length] at hi
      have hlw := hi.lt
      have HS := Lib.hid (Tryd.Builder_String_any w1.heap.size w1.heap.size (showT l) _ hi (by omega))
      clear hi hb hk hlt
      go_wp2_with fail
      refine HS.out.mono ?_
      rintro e W5 ⟨rfl, hb5⟩
      have HBF := Lib.hid (HB.out.trans (hb5.mono (by omega)))
      clear HS hb5 HB
      go_wp2
      go_ret2
      exact ⟨by rw [HV.out]; rfl, HBF.out⟩
end Go.Proofs.YtdjamdbamkhblacDoor
