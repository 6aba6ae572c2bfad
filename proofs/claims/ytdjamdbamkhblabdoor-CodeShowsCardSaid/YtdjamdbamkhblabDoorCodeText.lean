/- The walks of the reference's dec, nameOf and CodeText: what they return. No condition. By an AI agent (xctext.py). -/
import Derived.Test.YtdjamdbamkhblabDoorShow
import Derived.Test.YtdjamdbamkhblabDoorCodeRef
import Derived.Test.YtdjamdbamkhblabDoorSeal
import Derived.StillTailTactics
namespace Go.Proofs.YtdjamdbamkhblabDoor
open Go.RowKit
set_option linter.unusedVariables false
set_option linter.unusedSimpArgs false
theorem wrap_u8t {n : Int} (h1 : 0 ≤ n) (h2 : n ≤ 255) : IntKind.u8.wrap n = n := by
  unfold IntKind.wrap
  simp [IntKind.signed, IntKind.bits]
  omega
theorem cat_run (W : World) (a b : List UInt8) (h : a.length + b.length ≤ 1000000) : (Op.stringOp .add ⟨a.toArray⟩ ⟨b.toArray⟩).run Tryd.prog W = .ok (.string ⟨(a ++ b).toArray⟩) W := by
  rw [run_string_add_sum W _ _ (by show a.toArray.size + b.toArray.size ≤ _; simp; omega)]
  have : (⟨a.toArray⟩ : ByteArray) ++ ⟨b.toArray⟩ = ⟨(a ++ b).toArray⟩ := by
    apply ByteArray.ext
    simp
  rw [this]
set_option maxRecDepth 100000 in
set_option maxHeartbeats 1000000 in
theorem Dec_any (n : Nat) : n ≤ 65535 → ∀ w : World, Calls Tryd.prog 80 #[.int .i64 (n : Int)] w fun e w' => e = .returned (.string ⟨(decL n).toArray⟩) ∧ Below w.heap.size w w' := by
  induction n using Nat.strongRecOn with
  | _ n ih =>
    intro hn w
    by_cases h10 : n < 10
    · have h1 : (n : Int) < 10 := by omega
      have HD : Hid (decL n = [u8 (48 + n)]) := by show _ = _; unfold decL; rw [dif_pos h10]
      have hcv := conv1b w _ (48 + (n : Int)) 1 rfl
      have hbx := Lib.hid ((Below.refl w.heap.size w).alloc (Nat.le_refl _) (.cells #[.int .u8 (48 + (n : Int))] 5))
      clear ih h10
      go_enter Tryd.func80, Tryd.ntmps80
      go_wp2
      go_ret
      refine ⟨?_, hbx.out⟩
      rw [HD.out, show (48 + n) = (48 + (n : Int)).toNat from by omega]
      rfl
    · have h1 : ¬ (n : Int) < 10 := by omega
      have HD : Hid (decL n = decL (n / 10) ++ decL (n % 10)) := by
        show _ = _
        rw [decL, dif_neg h10]
        congr 1
        rw [decL, dif_pos (by omega)]
      have e1 : ((n / 10 : Nat) : Int) = (n : Int) / 10 := by push_cast; rfl
      have e2 : ((n % 10 : Nat) : Int) = (n : Int) % 10 := by push_cast; rfl
      have hA := ih (n / 10) (by omega) (by omega)
      rw [e1] at hA
      have HA := Lib.hid hA
      have hB := ih (n % 10) (by omega) (by omega)
      rw [e2] at hB
      have HB := Lib.hid hB
      have L1 := Lib.hid (decL_len (n := n / 10) (k := 4) (by omega))
      have L2 := Lib.hid (decL_len (n := n % 10) (k := 4) (by omega))
      clear ih h10 hA hB e1 e2
      go_enter Tryd.func80, Tryd.ntmps80
      go_wp2_with fail
      refine (HA.out _).mono ?_
      rintro e w1 ⟨rfl, hb1⟩
      go_wp2_with fail
      refine (HB.out _).mono ?_
      rintro e w2 ⟨rfl, hb2⟩
      have hadd := cat_run w2 (decL (n / 10)) (decL (n % 10)) (by have := L1.out; have := L2.out; omega)
      have HBF := Lib.hid (hb1.trans (hb2.mono hb1.size))
      clear hb1 hb2 HA HB L1 L2
      go_wp2
      go_ret
      exact ⟨by rw [HD.out]; rfl, HBF.out⟩
set_option maxRecDepth 100000 in
set_option maxHeartbeats 1000000 in
theorem nameOf_any (q : Nat) (h1 : 1 ≤ q) (h2 : q ≤ 15) (w : World) :
    Calls Tryd.prog 78 #[.int .i64 q] w fun e w' => e = .returned (.string ⟨(nmL q).toArray⟩) ∧ Below w.heap.size w w' := by
  obtain ⟨cs, hcs⟩ : ∃ cs : Array Value, cs = #[.string ⟨#[]⟩, .string ⟨#[108, 105]⟩, .string ⟨#[97, 100, 100]⟩, .string ⟨#[115, 117, 98]⟩, .string ⟨#[97, 110, 100]⟩, .string ⟨#[111, 114]⟩, .string ⟨#[120, 111, 114]⟩, .string ⟨#[108, 116]⟩, .string ⟨#[108, 100]⟩, .string ⟨#[115, 116]⟩, .string ⟨#[106, 109, 112]⟩, .string ⟨#[106, 122]⟩, .string ⟨#[99, 97, 108, 108]⟩, .string ⟨#[114, 101, 116]⟩, .string ⟨#[116, 101, 108, 108]⟩, .string ⟨#[104, 97, 108, 116]⟩] := ⟨_, rfl⟩
  have hb := Lib.hid ((Below.refl w.heap.size w).alloc (Nat.le_refl _) (.cells cs 9))
  have hB := Blk.new w 9 cs
  have hc : (w.alloc (.cells cs 9)).cell? ⟨w.heap.size, q, none⟩ = some (.string ⟨(nmL q).toArray⟩) := by
    rw [hB.cell, hcs]
    rcases q_cases h1 h2 with h | h | h | h | h | h | h | h | h | h | h | h | h | h | h <;> subst h <;> rfl
  have h16 : (q : Int) < 16 := by omega
  have h0 : 0 ≤ (q : Int) := by omega
  rw [hcs] at hc hb
  clear hcs hB h1 h2
  go_enter Tryd.func78, Tryd.ntmps78
  go_wp2
  go_ret
  exact ⟨rfl, hb.out⟩
set_option maxRecDepth 100000 in
set_option maxHeartbeats 4000000 in
theorem CodeText_any (A : Option Addr) (c : Nat) (l : List Ins) (w : World) (hr : RdI w w.heap.size A l) (hl : l.length ≤ maxLen) :
    Calls Tryd.prog 36 #[.slice A l.length c] w fun e w' => e = .returned (showV l) ∧ Below w.heap.size w w' := by
  have HCK := Lib.hid (CodeFault_any A c l w hr hl)
  have HR := Lib.hid hr
  have hl' : (l.length : Int) ≤ 9223372036854775807 := by unfold maxLen at hl; omega
  clear hr hl
  go_enter Tryd.func36, Tryd.ntmps36
  go_wp2_with fail
  refine HCK.out.mono ?_
  rintro e w1 ⟨rfl, hb1⟩
  clear HCK
  by_cases hk : check l ≠ 0
  · have hne : (check l != 0) = true := by rw [bne_iff_ne]; exact hk
    have HV : Hid (showV l = .tuple #[.string ⟨#[]⟩, .int .i64 (check l)]) := by show _ = _; unfold showV; rw [if_neg hk]
    have HB := Lib.hid hb1
    clear hk hb1
    go_wp2
    go_ret2
    exact ⟨by rw [HV.out]; rfl, HB.out⟩
  have hk := Decidable.not_not.1 hk
  have HV : Hid (showV l = .tuple #[.string ⟨(showT l).toArray⟩, .int .i64 0]) := by show _ = _; unfold showV; rw [hk, if_pos rfl]
  have h200 : l.length ≤ 200 := by
    unfold check at hk
    split at hk
    · cases hk
    · omega
  have HK := Lib.hid (chk_insK.1 (by unfold check at hk; rwa [if_neg (by omega)] at hk))
  rw [hk]
  clear hk
  have HB1 := Lib.hid hb1
  clear hb1
  go_wp2_with fail
  go_loopw [5, 6] (fun t i wr => Cnt l.length i fun k => t = .string ⟨(showT (l.take k)).toArray⟩ ∧ Below w.heap.size w wr) (fun _ i _ => l.length - (intOf i).toNat)
  case atStart => exact ⟨0, Nat.zero_le _, rfl, rfl, HB1.out⟩
  case round =>
    clear HB1
    obtain ⟨k, hk, rfl, rfl, hb⟩ := hrel
    have HB := Lib.hid hb
    by_cases hlt : k < l.length
    · obtain ⟨⟨h1, h2⟩, hok⟩ := HK.out _ (List.getElem_mem hlt)
      have hlt' : (k : Int) < (l.length : Int) := by omega
      obtain ⟨b, o, rfl, hbB, hcell⟩ := HR.out (by omega)
      obtain ⟨c0, c1, c2, c3⟩ := hcell k hlt
      have hbw := Nat.lt_of_lt_of_le hbB hb.size
      have c0 := (hb.cell (p := ⟨b, o + k * 4, none⟩) hbB).trans c0
      have HSN := Lib.hid (showT_snoc l k hlt)
      have HLEN := Lib.hid (show (showT (l.take k)).length ≤ 2800 from by
        have := showT_len (l := l.take k) (fun i hi => HK.out i (List.mem_of_mem_take hi))
        have h3 : (l.take k).length ≤ 200 := by simp; omega
        omega)
      obtain ⟨T0, hT0⟩ : ∃ T0, T0 = showT (l.take k) := ⟨_, rfl⟩
      have hokp := okI_parts h1 h2 hok
      obtain ⟨⟨q, hq⟩, ⟨na, hna⟩, ⟨nb, hnb⟩, ⟨nc, hnc⟩⟩ : (∃ q : Nat, l[k].op = q) ∧ (∃ n : Nat, l[k].a = n) ∧ (∃ n : Nat, l[k].b = n) ∧ (∃ n : Nat, l[k].c = n) := by
        unfold okI at hok
        simp at hok
        exact ⟨⟨l[k].op.toNat, by omega⟩, ⟨l[k].a.toNat, by omega⟩, ⟨l[k].b.toNat, by omega⟩, ⟨l[k].c.toNat, by omega⟩⟩
      have HLT : Hid (lineT l[k] = nmL q ++ partsT (shL q) [na, nb, nc]) := by show _ = _; unfold lineT; rw [hq, hna, hnb, hnc]; rfl
      have HLL := Lib.hid (lineT_len ⟨⟨h1, h2⟩, hok⟩)
      rw [hq, hna, hnb, hnc] at hokp
      rw [hq] at c0 h1 h2
      rw [hna] at c1
      rw [hnb] at c2
      rw [hnc] at c3
      rw [← hT0] at HSN HLEN
      rw [← hT0]
      simp only [Int.toNat_natCast] at hokp
      clear hok hcell hq hna hnb hnc hT0
      have hq1 : 1 ≤ q := by omega
      have hq15 : q ≤ 15 := by omega
      have hs3 : (shp q).size = 3 := shp_size hq1 hq15
      obtain ⟨s0, s1, s2, hsl, hb0, hb1', hb2', k0, k1, k2⟩ := shl_parts hq1 hq15 hs3
      rw [hsl] at hokp HLT
      obtain ⟨m0, m1, m2, -⟩ := hokp
      have HSL := Lib.hid HLT.out
      have M := Lib.hid (show na ≤ 65535 ∧ nb ≤ 65535 ∧ nc ≤ 65535 from ⟨Nat.le_trans m0 (grtN_le _), Nat.le_trans m1 (grtN_le _), Nat.le_trans m2 (grtN_le _)⟩)
      have HLL2 : Hid ((nmL q ++ partsT [s0, s1, s2] [na, nb, nc]).length ≤ 13) := by show _ ≤ _; rw [← HLT.out]; exact HLL.out
      have HC := Lib.hid (And.intro hbB (And.intro c1 (And.intro c2 c3)))
      clear HLT HLL m0 m1 m2 hsl c1 c2 c3 hb
      go_wp2_with fail
      refine (nameOf_any q hq1 hq15 _).mono ?_
      rintro e w2 ⟨rfl, hb2⟩
      have hadd := cat_run w2 T0 (nmL q) (by have h1 := HLL2.out; have h2 := HLEN.out; simp at h1; omega)
      have HB2 := Lib.hid (HB.out.trans (hb2.mono HB.out.size))
      have c0 := (hb2.cell (p := ⟨b, o + k * 4, none⟩) hbw).trans c0
      have c1 := (HB2.out.cell (p := ⟨b, o + k * 4 + 1, none⟩) HC.out.1).trans HC.out.2.1
      have c2 := (HB2.out.cell (p := ⟨b, o + k * 4 + 2, none⟩) HC.out.1).trans HC.out.2.2.1
      have c3 := (HB2.out.cell (p := ⟨b, o + k * 4 + 3, none⟩) HC.out.1).trans HC.out.2.2.2
      have hbw := Nat.lt_of_lt_of_le hbw hb2.size
      clear hb2 HC
      go_wp2_with fail
      refine (shapeOf_any q hq1 hq15 _).mono ?_
      rintro e w' ⟨rfl, rfl⟩
      go_upto_region 10 with fail
      clear hadd
      go_still_tail 15, (by kernel_rfl)
      change wpList _ _ _ _ _ w2.drew
      have hbd := (HB2.out).trans ((Below.drewN' (Below.refl w2.heap.size w2) 1).mono HB2.out.size)
      have HB5 := Lib.hid (hbd.alloc hbd.size (.cells #[.int .i64 na, .int .i64 nb, .int .i64 nc] 3))
      have HY5 := Lib.hid (Blk.new w2.drew 3 #[.int .i64 na, .int .i64 nb, .int .i64 nc])
      clear hbd c0 c1 c2 c3 HB HB2 hbw
      go_wp2_with fail
      go_loopw [5, 9] (fun t i wq => Cnt 3 i fun j => ∃ P : List UInt8, t = .string ⟨P.toArray⟩ ∧ P = T0 ++ nmL q ++ partsT ([s0, s1, s2].take j) ([na, nb, nc].take j) ∧ Blk wq w2.drew.heap.size 3 #[.int .i64 na, .int .i64 nb, .int .i64 nc] ∧ Below w.heap.size w wq) (fun _ i _ => 3 - (intOf i).toNat)
      case atStart => exact ⟨0, by omega, rfl, _, rfl, by simp [partsT], HY5.out, HB5.out⟩
      case round =>
        clear HY5 HB5
        obtain ⟨j, hj, rfl, P, rfl, hP, hy, hb⟩ := hrel
        have HP := Lib.hid hP
        clear hP
        by_cases hj3 : j < 3
        · have HY := Lib.hid hy
          have HB6 := Lib.hid hb
          have y0 := hy.cell 0
          have y1 := hy.cell 1
          have y2 := hy.cell 2
          have yl := hy.lt
          simp at y0 y1 y2 yl
          clear hy hb hj
          have hj' : j = 0 ∨ j = 1 ∨ j = 2 := by omega
          clear hj3
          rcases hj' with rfl | rfl | rfl
          · rcases k0 with h | h | h | h
            · subst h
              clear hb1' hb2'
              have HIT := Lib.hid (fun (W : World) => Dec_any na (by have := M.out; omega) W)
              have hadd1 := fun (W : World) => cat_run W P [32, 114] (by have h1 := HLL2.out; have h2 := HLEN.out; rw [HP.out]; simp [partsT, partT] at h1 ⊢; omega)
              go_wp2_with fail
              refine (HIT.out _).mono ?_
              rintro e W7 ⟨rfl, hb7⟩
              have hadd := cat_run W7 (P ++ [32, 114]) (decL na) (by have h1 := HLL2.out; have h2 := HLEN.out; rw [HP.out]; simp [partsT, partT] at h1 ⊢; omega)
              have HY7 := Lib.hid (HY.out.below hb7 HY.out.lt)
              have HB7 := Lib.hid (HB6.out.trans (hb7.mono HB6.out.size))
              clear HY HB6 hb7 HIT hadd1 y0 y1 y2 yl
              go_wp2_with fail
              exact ⟨⟨1, by omega, by go_num, _, rfl, by rw [HP.out]; simp [partsT, partT, List.append_assoc], HY7.out, HB7.out⟩, by simp [intOf]⟩
            · subst h
              clear hb1' hb2'
              go_wp2_with fail
              exact ⟨⟨1, by omega, by go_num, P, rfl, by rw [HP.out]; simp [partsT, partT], HY.out, HB6.out⟩, by simp [intOf]⟩
            · subst h
              clear hb1' hb2'
              have HIT := Lib.hid (fun (W : World) => Dec_any na (by have := M.out; omega) W)
              have hadd1 := fun (W : World) => cat_run W P [32] (by have h1 := HLL2.out; have h2 := HLEN.out; rw [HP.out]; simp [partsT, partT] at h1 ⊢; omega)
              go_wp2_with fail
              refine (HIT.out _).mono ?_
              rintro e W7 ⟨rfl, hb7⟩
              have hadd := cat_run W7 (P ++ [32]) (decL na) (by have h1 := HLL2.out; have h2 := HLEN.out; rw [HP.out]; simp [partsT, partT] at h1 ⊢; omega)
              have HY7 := Lib.hid (HY.out.below hb7 HY.out.lt)
              have HB7 := Lib.hid (HB6.out.trans (hb7.mono HB6.out.size))
              clear HY HB6 hb7 HIT hadd1 y0 y1 y2 yl
              go_wp2_with fail
              exact ⟨⟨1, by omega, by go_num, _, rfl, by rw [HP.out]; simp [partsT, partT, List.append_assoc], HY7.out, HB7.out⟩, by simp [intOf]⟩
            · subst h
              clear hb1' hb2'
              have HIT := Lib.hid (fun (W : World) => Dec_any na (by have := M.out; omega) W)
              have hadd1 := fun (W : World) => cat_run W P [32] (by have h1 := HLL2.out; have h2 := HLEN.out; rw [HP.out]; simp [partsT, partT] at h1 ⊢; omega)
              go_wp2_with fail
              refine (HIT.out _).mono ?_
              rintro e W7 ⟨rfl, hb7⟩
              have hadd := cat_run W7 (P ++ [32]) (decL na) (by have h1 := HLL2.out; have h2 := HLEN.out; rw [HP.out]; simp [partsT, partT] at h1 ⊢; omega)
              have HY7 := Lib.hid (HY.out.below hb7 HY.out.lt)
              have HB7 := Lib.hid (HB6.out.trans (hb7.mono HB6.out.size))
              clear HY HB6 hb7 HIT hadd1 y0 y1 y2 yl
              go_wp2_with fail
              exact ⟨⟨1, by omega, by go_num, _, rfl, by rw [HP.out]; simp [partsT, partT, List.append_assoc], HY7.out, HB7.out⟩, by simp [intOf]⟩
          · rcases k1 with h | h | h | h
            · subst h
              clear hb0 hb2'
              have HIT := Lib.hid (fun (W : World) => Dec_any nb (by have := M.out; omega) W)
              have hadd1 := fun (W : World) => cat_run W P [32, 114] (by have h1 := HLL2.out; have h2 := HLEN.out; rw [HP.out]; simp [partsT, partT] at h1 ⊢; omega)
              go_wp2_with fail
              refine (HIT.out _).mono ?_
              rintro e W7 ⟨rfl, hb7⟩
              have hadd := cat_run W7 (P ++ [32, 114]) (decL nb) (by have h1 := HLL2.out; have h2 := HLEN.out; rw [HP.out]; simp [partsT, partT] at h1 ⊢; omega)
              have HY7 := Lib.hid (HY.out.below hb7 HY.out.lt)
              have HB7 := Lib.hid (HB6.out.trans (hb7.mono HB6.out.size))
              clear HY HB6 hb7 HIT hadd1 y0 y1 y2 yl
              go_wp2_with fail
              exact ⟨⟨2, by omega, by go_num, _, rfl, by rw [HP.out]; simp [partsT, partT, List.append_assoc], HY7.out, HB7.out⟩, by simp [intOf]⟩
            · subst h
              clear hb0 hb2'
              go_wp2_with fail
              exact ⟨⟨2, by omega, by go_num, P, rfl, by rw [HP.out]; simp [partsT, partT], HY.out, HB6.out⟩, by simp [intOf]⟩
            · subst h
              clear hb0 hb2'
              have HIT := Lib.hid (fun (W : World) => Dec_any nb (by have := M.out; omega) W)
              have hadd1 := fun (W : World) => cat_run W P [32] (by have h1 := HLL2.out; have h2 := HLEN.out; rw [HP.out]; simp [partsT, partT] at h1 ⊢; omega)
              go_wp2_with fail
              refine (HIT.out _).mono ?_
              rintro e W7 ⟨rfl, hb7⟩
              have hadd := cat_run W7 (P ++ [32]) (decL nb) (by have h1 := HLL2.out; have h2 := HLEN.out; rw [HP.out]; simp [partsT, partT] at h1 ⊢; omega)
              have HY7 := Lib.hid (HY.out.below hb7 HY.out.lt)
              have HB7 := Lib.hid (HB6.out.trans (hb7.mono HB6.out.size))
              clear HY HB6 hb7 HIT hadd1 y0 y1 y2 yl
              go_wp2_with fail
              exact ⟨⟨2, by omega, by go_num, _, rfl, by rw [HP.out]; simp [partsT, partT, List.append_assoc], HY7.out, HB7.out⟩, by simp [intOf]⟩
            · subst h
              clear hb0 hb2'
              have HIT := Lib.hid (fun (W : World) => Dec_any nb (by have := M.out; omega) W)
              have hadd1 := fun (W : World) => cat_run W P [32] (by have h1 := HLL2.out; have h2 := HLEN.out; rw [HP.out]; simp [partsT, partT] at h1 ⊢; omega)
              go_wp2_with fail
              refine (HIT.out _).mono ?_
              rintro e W7 ⟨rfl, hb7⟩
              have hadd := cat_run W7 (P ++ [32]) (decL nb) (by have h1 := HLL2.out; have h2 := HLEN.out; rw [HP.out]; simp [partsT, partT] at h1 ⊢; omega)
              have HY7 := Lib.hid (HY.out.below hb7 HY.out.lt)
              have HB7 := Lib.hid (HB6.out.trans (hb7.mono HB6.out.size))
              clear HY HB6 hb7 HIT hadd1 y0 y1 y2 yl
              go_wp2_with fail
              exact ⟨⟨2, by omega, by go_num, _, rfl, by rw [HP.out]; simp [partsT, partT, List.append_assoc], HY7.out, HB7.out⟩, by simp [intOf]⟩
          · rcases k2 with h | h | h | h
            · subst h
              clear hb0 hb1'
              have HIT := Lib.hid (fun (W : World) => Dec_any nc (by have := M.out; omega) W)
              have hadd1 := fun (W : World) => cat_run W P [32, 114] (by have h1 := HLL2.out; have h2 := HLEN.out; rw [HP.out]; simp [partsT, partT] at h1 ⊢; omega)
              go_wp2_with fail
              refine (HIT.out _).mono ?_
              rintro e W7 ⟨rfl, hb7⟩
              have hadd := cat_run W7 (P ++ [32, 114]) (decL nc) (by have h1 := HLL2.out; have h2 := HLEN.out; rw [HP.out]; simp [partsT, partT] at h1 ⊢; omega)
              have HY7 := Lib.hid (HY.out.below hb7 HY.out.lt)
              have HB7 := Lib.hid (HB6.out.trans (hb7.mono HB6.out.size))
              clear HY HB6 hb7 HIT hadd1 y0 y1 y2 yl
              go_wp2_with fail
              exact ⟨⟨3, by omega, by go_num, _, rfl, by rw [HP.out]; simp [partsT, partT, List.append_assoc], HY7.out, HB7.out⟩, by simp [intOf]⟩
            · subst h
              clear hb0 hb1'
              go_wp2_with fail
              exact ⟨⟨3, by omega, by go_num, P, rfl, by rw [HP.out]; simp [partsT, partT], HY.out, HB6.out⟩, by simp [intOf]⟩
            · subst h
              clear hb0 hb1'
              have HIT := Lib.hid (fun (W : World) => Dec_any nc (by have := M.out; omega) W)
              have hadd1 := fun (W : World) => cat_run W P [32] (by have h1 := HLL2.out; have h2 := HLEN.out; rw [HP.out]; simp [partsT, partT] at h1 ⊢; omega)
              go_wp2_with fail
              refine (HIT.out _).mono ?_
              rintro e W7 ⟨rfl, hb7⟩
              have hadd := cat_run W7 (P ++ [32]) (decL nc) (by have h1 := HLL2.out; have h2 := HLEN.out; rw [HP.out]; simp [partsT, partT] at h1 ⊢; omega)
              have HY7 := Lib.hid (HY.out.below hb7 HY.out.lt)
              have HB7 := Lib.hid (HB6.out.trans (hb7.mono HB6.out.size))
              clear HY HB6 hb7 HIT hadd1 y0 y1 y2 yl
              go_wp2_with fail
              exact ⟨⟨3, by omega, by go_num, _, rfl, by rw [HP.out]; simp [partsT, partT, List.append_assoc], HY7.out, HB7.out⟩, by simp [intOf]⟩
            · subst h
              clear hb0 hb1'
              have HIT := Lib.hid (fun (W : World) => Dec_any nc (by have := M.out; omega) W)
              have hadd1 := fun (W : World) => cat_run W P [32] (by have h1 := HLL2.out; have h2 := HLEN.out; rw [HP.out]; simp [partsT, partT] at h1 ⊢; omega)
              go_wp2_with fail
              refine (HIT.out _).mono ?_
              rintro e W7 ⟨rfl, hb7⟩
              have hadd := cat_run W7 (P ++ [32]) (decL nc) (by have h1 := HLL2.out; have h2 := HLEN.out; rw [HP.out]; simp [partsT, partT] at h1 ⊢; omega)
              have HY7 := Lib.hid (HY.out.below hb7 HY.out.lt)
              have HB7 := Lib.hid (HB6.out.trans (hb7.mono HB6.out.size))
              clear HY HB6 hb7 HIT hadd1 y0 y1 y2 yl
              go_wp2_with fail
              exact ⟨⟨3, by omega, by go_num, _, rfl, by rw [HP.out]; simp [partsT, partT, List.append_assoc], HY7.out, HB7.out⟩, by simp [intOf]⟩
        · obtain rfl : j = 3 := by omega
          have HB6 := Lib.hid hb
          have hadd := fun (W : World) => cat_run W P [10] (by have h1 := HLL2.out; have h2 := HLEN.out; rw [HP.out]; simp at h1 ⊢; omega)
          have HE : Hid (P ++ [10] = showT (l.take (k + 1))) := by
            show _ = _
            rw [HSN.out, HSL.out, HP.out]
            simp [List.append_assoc]
          clear hy hb hj hj3
          go_wp2_with fail
          exact ⟨⟨k + 1, by omega, by go_num, by rw [HE.out], HB6.out⟩, by simp [intOf]; omega⟩
    · obtain rfl : k = l.length := by omega
      rw [List.take_length]
      have hlt' : ¬ (l.length : Int) < (l.length : Int) := by omega
      clear hb hk hlt
      go_wp2
      go_ret2
      exact ⟨by rw [HV.out]; rfl, HB.out⟩
end Go.Proofs.YtdjamdbamkhblabDoor
