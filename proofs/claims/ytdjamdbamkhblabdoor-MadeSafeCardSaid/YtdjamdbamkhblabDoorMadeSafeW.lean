/- The walk of the law MadeSafe: it answers true. Condition: the listed tables. -/
import Derived.Test.YtdjamdbamkhblabDoorKPlain
import Derived.Test.YtdjamdbamkhblabDoorMake
import Derived.Test.YtdjamdbamkhblabDoorVerify
import Derived.Test.YtdjamdbamkhblabDoorCloneMod
namespace Go.Proofs.YtdjamdbamkhblabDoor
open Go.RowKit
set_option linter.unusedVariables false
set_option linter.unusedSimpArgs false
theorem makeOf_plain (l : List Ins) : makeOf (plainL l) = (madeOf (plainL l), 0) := by
  have h1 := plainL_ok l
  have h2 := plainL_plainB l
  have h3 := plainL_made l
  have hc : check (plainL l) = 0 := (check_zero_iff _).2 ⟨by omega, h1.2.1⟩
  unfold makeOf
  rw [if_pos hc, if_pos (by unfold plainB; simp [h2]), if_neg (by omega)]
/-- The world with the odd rows. -/
def oddW (w3 : World) : World := (((((((((((w3.alloc (.cells #[.int .i64 8, .int .i64 1, .int .i64 2, .int .i64 0] 45)).alloc (.cells #[.int .i64 9, .int .i64 1, .int .i64 0, .int .i64 0] 45)).alloc (.cells #[.int .i64 1, .int .i64 4, .int .i64 0, .int .i64 3] 45)).alloc (.cells #[.int .i64 1, .int .i64 5, .int .i64 0, .int .i64 0] 45)).alloc (.cells #[.int .i64 8, .int .i64 6, .int .i64 4, .int .i64 0] 45)).alloc (.cells #[.int .i64 8, .int .i64 4, .int .i64 4, .int .i64 0] 45)).alloc (.cells #[.int .i64 4, .int .i64 4, .int .i64 1, .int .i64 6] 45)).alloc (.cells #[.int .i64 4, .int .i64 4, .int .i64 1, .int .i64 2, .int .i64 5, .int .i64 4, .int .i64 4, .int .i64 5] 45)).alloc (.cells #[.int .i64 5, .int .i64 4, .int .i64 1, .int .i64 5] 45)).alloc (.cells #[.int .i64 10, .int .i64 0, .int .i64 0, .int .i64 199] 45)).alloc (.cells #[.int .i64 14, .int .i64 0, .int .i64 0, .int .i64 0] 45)).alloc (.cells #[.slice (some ⟨w3.heap.size, 0, none⟩) 1 1, .slice (some ⟨w3.heap.size + 1, 0, none⟩) 1 1, .slice (some ⟨w3.heap.size + 1 + 1, 0, none⟩) 1 1, .slice (some ⟨w3.heap.size + 1 + 1 + 1, 0, none⟩) 1 1, .slice (some ⟨w3.heap.size + 1 + 1 + 1 + 1, 0, none⟩) 1 1, .slice (some ⟨w3.heap.size + 1 + 1 + 1 + 1 + 1, 0, none⟩) 1 1, .slice (some ⟨w3.heap.size + 1 + 1 + 1 + 1 + 1 + 1, 0, none⟩) 1 1, .slice (some ⟨w3.heap.size + 1 + 1 + 1 + 1 + 1 + 1 + 1, 0, none⟩) 2 2, .slice (some ⟨w3.heap.size + 1 + 1 + 1 + 1 + 1 + 1 + 1 + 1, 0, none⟩) 1 1, .slice (some ⟨w3.heap.size + 1 + 1 + 1 + 1 + 1 + 1 + 1 + 1 + 1, 0, none⟩) 1 1, .slice (some ⟨w3.heap.size + 1 + 1 + 1 + 1 + 1 + 1 + 1 + 1 + 1 + 1, 0, none⟩) 1 1] 25)
theorem oddW_below (w3 : World) : Below w3.heap.size w3 (oddW w3) := by
  unfold oddW
  have b1 := (Below.refl w3.heap.size w3).alloc (Nat.le_refl _) (.cells #[.int .i64 8, .int .i64 1, .int .i64 2, .int .i64 0] 45)
  have b2 := b1.alloc b1.size (.cells #[.int .i64 9, .int .i64 1, .int .i64 0, .int .i64 0] 45)
  have b3 := b2.alloc b2.size (.cells #[.int .i64 1, .int .i64 4, .int .i64 0, .int .i64 3] 45)
  have b4 := b3.alloc b3.size (.cells #[.int .i64 1, .int .i64 5, .int .i64 0, .int .i64 0] 45)
  have b5 := b4.alloc b4.size (.cells #[.int .i64 8, .int .i64 6, .int .i64 4, .int .i64 0] 45)
  have b6 := b5.alloc b5.size (.cells #[.int .i64 8, .int .i64 4, .int .i64 4, .int .i64 0] 45)
  have b7 := b6.alloc b6.size (.cells #[.int .i64 4, .int .i64 4, .int .i64 1, .int .i64 6] 45)
  have b8 := b7.alloc b7.size (.cells #[.int .i64 4, .int .i64 4, .int .i64 1, .int .i64 2, .int .i64 5, .int .i64 4, .int .i64 4, .int .i64 5] 45)
  have b9 := b8.alloc b8.size (.cells #[.int .i64 5, .int .i64 4, .int .i64 1, .int .i64 5] 45)
  have b10 := b9.alloc b9.size (.cells #[.int .i64 10, .int .i64 0, .int .i64 0, .int .i64 199] 45)
  have b11 := b10.alloc b10.size (.cells #[.int .i64 14, .int .i64 0, .int .i64 0, .int .i64 0] 45)
  have b12 := b11.alloc b11.size (.cells #[.slice (some ⟨w3.heap.size, 0, none⟩) 1 1, .slice (some ⟨w3.heap.size + 1, 0, none⟩) 1 1, .slice (some ⟨w3.heap.size + 1 + 1, 0, none⟩) 1 1, .slice (some ⟨w3.heap.size + 1 + 1 + 1, 0, none⟩) 1 1, .slice (some ⟨w3.heap.size + 1 + 1 + 1 + 1, 0, none⟩) 1 1, .slice (some ⟨w3.heap.size + 1 + 1 + 1 + 1 + 1, 0, none⟩) 1 1, .slice (some ⟨w3.heap.size + 1 + 1 + 1 + 1 + 1 + 1, 0, none⟩) 1 1, .slice (some ⟨w3.heap.size + 1 + 1 + 1 + 1 + 1 + 1 + 1, 0, none⟩) 2 2, .slice (some ⟨w3.heap.size + 1 + 1 + 1 + 1 + 1 + 1 + 1 + 1, 0, none⟩) 1 1, .slice (some ⟨w3.heap.size + 1 + 1 + 1 + 1 + 1 + 1 + 1 + 1 + 1, 0, none⟩) 1 1, .slice (some ⟨w3.heap.size + 1 + 1 + 1 + 1 + 1 + 1 + 1 + 1 + 1 + 1, 0, none⟩) 1 1] 25)
  exact b12
theorem oddW_size (w3 : World) : (oddW w3).heap.size = w3.heap.size + 12 := by simp [oddW]
theorem rd_of_blk {W : World} {g : Nat} {t : TypeId} {l : List Ins} (h : Blk W g t (insCells l).toArray) : RdI W W.heap.size (some ⟨g, 0, none⟩) l := by
  refine RdI.of ?_
  have e := h.rd l.length 4 (by simp [insCells_length])
  rw [show (insCells l).toArray.toList.take (l.length * 4) = insCells l by rw [← insCells_length]; simp] at e
  exact e
theorem oddW_row (w3 : World) (k : Nat) (hk : k < 11) : ∃ g, w3.heap.size ≤ g ∧ (oddW w3).cell? ⟨w3.heap.size + 1 + 1 + 1 + 1 + 1 + 1 + 1 + 1 + 1 + 1 + 1, k, none⟩ = some (.slice (some ⟨g, 0, none⟩) (oddC k).length (oddC k).length) ∧ RdI (oddW w3) (oddW w3).heap.size (some ⟨g, 0, none⟩) (oddC k) := by
  have hT : Blk (oddW w3) (w3.heap.size + 1 + 1 + 1 + 1 + 1 + 1 + 1 + 1 + 1 + 1 + 1) 25 #[.slice (some ⟨w3.heap.size, 0, none⟩) 1 1, .slice (some ⟨w3.heap.size + 1, 0, none⟩) 1 1, .slice (some ⟨w3.heap.size + 1 + 1, 0, none⟩) 1 1, .slice (some ⟨w3.heap.size + 1 + 1 + 1, 0, none⟩) 1 1, .slice (some ⟨w3.heap.size + 1 + 1 + 1 + 1, 0, none⟩) 1 1, .slice (some ⟨w3.heap.size + 1 + 1 + 1 + 1 + 1, 0, none⟩) 1 1, .slice (some ⟨w3.heap.size + 1 + 1 + 1 + 1 + 1 + 1, 0, none⟩) 1 1, .slice (some ⟨w3.heap.size + 1 + 1 + 1 + 1 + 1 + 1 + 1, 0, none⟩) 2 2, .slice (some ⟨w3.heap.size + 1 + 1 + 1 + 1 + 1 + 1 + 1 + 1, 0, none⟩) 1 1, .slice (some ⟨w3.heap.size + 1 + 1 + 1 + 1 + 1 + 1 + 1 + 1 + 1, 0, none⟩) 1 1, .slice (some ⟨w3.heap.size + 1 + 1 + 1 + 1 + 1 + 1 + 1 + 1 + 1 + 1, 0, none⟩) 1 1] := Blk.new' (by simp)
  have h : k = 0 ∨ k = 1 ∨ k = 2 ∨ k = 3 ∨ k = 4 ∨ k = 5 ∨ k = 6 ∨ k = 7 ∨ k = 8 ∨ k = 9 ∨ k = 10 := by omega
  rcases h with rfl | rfl | rfl | rfl | rfl | rfl | rfl | rfl | rfl | rfl | rfl
  · have e : Blk (oddW w3) (w3.heap.size) 45 #[.int .i64 8, .int .i64 1, .int .i64 2, .int .i64 0] := ((((((((((((Blk.new' (by simp))).alloc _).alloc _).alloc _).alloc _).alloc _).alloc _).alloc _).alloc _).alloc _).alloc _).alloc _
    exact ⟨w3.heap.size, by omega, by rw [hT.cell]; rfl, rd_of_blk (l := oddC 0) e⟩
  · have e : Blk (oddW w3) (w3.heap.size + 1) 45 #[.int .i64 9, .int .i64 1, .int .i64 0, .int .i64 0] := (((((((((((Blk.new' (by simp))).alloc _).alloc _).alloc _).alloc _).alloc _).alloc _).alloc _).alloc _).alloc _).alloc _
    exact ⟨w3.heap.size + 1, by omega, by rw [hT.cell]; rfl, rd_of_blk (l := oddC 1) e⟩
  · have e : Blk (oddW w3) (w3.heap.size + 1 + 1) 45 #[.int .i64 1, .int .i64 4, .int .i64 0, .int .i64 3] := ((((((((((Blk.new' (by simp))).alloc _).alloc _).alloc _).alloc _).alloc _).alloc _).alloc _).alloc _).alloc _
    exact ⟨w3.heap.size + 1 + 1, by omega, by rw [hT.cell]; rfl, rd_of_blk (l := oddC 2) e⟩
  · have e : Blk (oddW w3) (w3.heap.size + 1 + 1 + 1) 45 #[.int .i64 1, .int .i64 5, .int .i64 0, .int .i64 0] := (((((((((Blk.new' (by simp))).alloc _).alloc _).alloc _).alloc _).alloc _).alloc _).alloc _).alloc _
    exact ⟨w3.heap.size + 1 + 1 + 1, by omega, by rw [hT.cell]; rfl, rd_of_blk (l := oddC 3) e⟩
  · have e : Blk (oddW w3) (w3.heap.size + 1 + 1 + 1 + 1) 45 #[.int .i64 8, .int .i64 6, .int .i64 4, .int .i64 0] := ((((((((Blk.new' (by simp))).alloc _).alloc _).alloc _).alloc _).alloc _).alloc _).alloc _
    exact ⟨w3.heap.size + 1 + 1 + 1 + 1, by omega, by rw [hT.cell]; rfl, rd_of_blk (l := oddC 4) e⟩
  · have e : Blk (oddW w3) (w3.heap.size + 1 + 1 + 1 + 1 + 1) 45 #[.int .i64 8, .int .i64 4, .int .i64 4, .int .i64 0] := (((((((Blk.new' (by simp))).alloc _).alloc _).alloc _).alloc _).alloc _).alloc _
    exact ⟨w3.heap.size + 1 + 1 + 1 + 1 + 1, by omega, by rw [hT.cell]; rfl, rd_of_blk (l := oddC 5) e⟩
  · have e : Blk (oddW w3) (w3.heap.size + 1 + 1 + 1 + 1 + 1 + 1) 45 #[.int .i64 4, .int .i64 4, .int .i64 1, .int .i64 6] := ((((((Blk.new' (by simp))).alloc _).alloc _).alloc _).alloc _).alloc _
    exact ⟨w3.heap.size + 1 + 1 + 1 + 1 + 1 + 1, by omega, by rw [hT.cell]; rfl, rd_of_blk (l := oddC 6) e⟩
  · have e : Blk (oddW w3) (w3.heap.size + 1 + 1 + 1 + 1 + 1 + 1 + 1) 45 #[.int .i64 4, .int .i64 4, .int .i64 1, .int .i64 2, .int .i64 5, .int .i64 4, .int .i64 4, .int .i64 5] := (((((Blk.new' (by simp))).alloc _).alloc _).alloc _).alloc _
    exact ⟨w3.heap.size + 1 + 1 + 1 + 1 + 1 + 1 + 1, by omega, by rw [hT.cell]; rfl, rd_of_blk (l := oddC 7) e⟩
  · have e : Blk (oddW w3) (w3.heap.size + 1 + 1 + 1 + 1 + 1 + 1 + 1 + 1) 45 #[.int .i64 5, .int .i64 4, .int .i64 1, .int .i64 5] := ((((Blk.new' (by simp))).alloc _).alloc _).alloc _
    exact ⟨w3.heap.size + 1 + 1 + 1 + 1 + 1 + 1 + 1 + 1, by omega, by rw [hT.cell]; rfl, rd_of_blk (l := oddC 8) e⟩
  · have e : Blk (oddW w3) (w3.heap.size + 1 + 1 + 1 + 1 + 1 + 1 + 1 + 1 + 1) 45 #[.int .i64 10, .int .i64 0, .int .i64 0, .int .i64 199] := (((Blk.new' (by simp))).alloc _).alloc _
    exact ⟨w3.heap.size + 1 + 1 + 1 + 1 + 1 + 1 + 1 + 1 + 1, by omega, by rw [hT.cell]; rfl, rd_of_blk (l := oddC 9) e⟩
  · have e : Blk (oddW w3) (w3.heap.size + 1 + 1 + 1 + 1 + 1 + 1 + 1 + 1 + 1 + 1) 45 #[.int .i64 14, .int .i64 0, .int .i64 0, .int .i64 0] := ((Blk.new' (by simp))).alloc _
    exact ⟨w3.heap.size + 1 + 1 + 1 + 1 + 1 + 1 + 1 + 1 + 1 + 1, by omega, by rw [hT.cell]; rfl, rd_of_blk (l := oddC 10) e⟩
theorem odd_op (k : Nat) (hk : k < 11) : ∃ h : 0 < (oddC k).length, ((oddC k)[0].op = 14 ↔ k = 10) ∧ (oddC k).length ≤ 2 := by
  have h : k = 0 ∨ k = 1 ∨ k = 2 ∨ k = 3 ∨ k = 4 ∨ k = 5 ∨ k = 6 ∨ k = 7 ∨ k = 8 ∨ k = 9 ∨ k = 10 := by omega
  rcases h with rfl | rfl | rfl | rfl | rfl | rfl | rfl | rfl | rfl | rfl | rfl <;> exact ⟨by decide, by decide, by decide⟩
theorem made_bad (l : List Ins) (k : Nat) (hk : k < 11) : (k ≠ 10 → verify (oddC k ++ madeOf (plainL l)) = 10) ∧ (k = 10 → verify (madeOf (plainL l) ++ oddC k) = 10) := by
  have h1 := plainL_ok l
  have h3 := plainL_made l
  have hc := (check_zero_iff _).1 ((verify_zero_iff _).1 h3.2.2).1
  have h0 : 0 < (madeOf (plainL l)).length := by omega
  refine ⟨fun hn => odd_bad _ k (by omega) hc.2 (by omega) ⟨h0, made_first h1.1 (by omega) h0⟩, fun hn => ?_⟩
  subst hn
  exact odd_last _ hc.2 (by omega)
set_option maxRecDepth 100000 in
set_option maxHeartbeats 40000000 in
theorem MadeSafe_any (A : Option Addr) (c : Nat) (l : List Ins) (which : Int) (w : World) (hr : RdI w w.heap.size A l) (hwf : ∀ i ∈ l, i.wf) (hl : l.length ≤ maxLen) (wn : (Lit.int .i64 which).wf = true) (ht : Tab w) :
    Calls Tryd.prog 4 #[.slice A l.length c, .int .i64 which] w fun e w' => e = .returned (.bool true) ∧ Below w.heap.size w w' := by
  obtain ⟨n1, n2⟩ := wf64_of wn
  obtain ⟨k, hk⟩ : ∃ k, pick which 11 = k := ⟨_, rfl⟩
  have hk1 : k < 11 := by rw [← hk]; exact pick_lt which (by omega)
  have C1 : Hid (∀ W : World, Calls Tryd.prog 22 #[.int .i64 which, .int .i64 11] W fun e w' => e = .returned (.int .i64 (k : Nat)) ∧ W = w') := fun W => by
    rw [← hk]; exact picked_any which 11 W n1 n2 (by omega) (by omega)
  obtain ⟨p, hp⟩ : ∃ p, p = plainL l := ⟨_, rfl⟩
  obtain ⟨m, hm⟩ : ∃ m, m = madeOf (plainL l) := ⟨_, rfl⟩
  have h1 := plainL_ok l
  have h3 := plainL_made l
  have HBD : Hid ((k ≠ 10 → verify (oddC k ++ m) = 10) ∧ (k = 10 → verify (m ++ oddC k) = 10)) := by rw [hm]; exact made_bad l k hk1
  have hm0 : 0 < m.length := by rw [hm]; omega
  have HMK : Hid (makeOf p = (m, 0)) := by show _ = _; rw [hp, hm]; exact makeOf_plain l
  rw [← hm, ← hp] at h3
  have hpl : p.length ≤ 31 := by rw [hp]; exact h1.2.2.2
  have KP : Hid (Calls Tryd.prog 19 #[.slice A l.length c] w fun e w' => ∃ V, e = .returned V ∧ w'.ownsRow w.heap.size 45 4 V p.length (insCells p) ∧ Below w.heap.size w w') := by
    rw [hp]; exact KPlain_any A c l w hr hwf hl
  obtain ⟨h3a, h3b, h3v⟩ := h3
  have HV := Lib.hid h3v
  have HPL := Lib.hid (show p.length ≤ maxLen by unfold maxLen; omega)
  have HML := Lib.hid (show m.length ≤ maxLen by unfold maxLen; omega)
  clear wn hk n1 n2 h1 h3v hp hm
  go_enter Tryd.func4, Tryd.ntmps4
  go_wp2_with fail
  refine KP.out.mono ?_
  rintro e w1 ⟨V, rfl, hV, hb1⟩
  obtain ⟨A1, c1, rfl⟩ := own_slice hV
  go_wp2_with fail
  refine (Make_any A1 c1 p w1 (RdI.of (Rd.of_own hV)) (ht.below hb1) HPL.out).mono ?_
  rw [HMK.out]
  rintro e w2 ⟨V2, rfl, hV2, hb2⟩
  obtain ⟨A2, c2, rfl⟩ := own_slice hV2
  have hbw2 := hb1.trans (hb2.mono hb1.size)
  simp only at hV2
  go_wp2_with fail
  refine (Verify_any A2 c2 m w2 (RdI.of (Rd.of_own hV2)) (ht.below hbw2) HML.out).mono ?_
  rw [HV.out]
  rintro e w3 ⟨rfl, hb3⟩
  have hbw3 := hbw2.trans (hb3.mono hbw2.size)
  have hlen : (p.length : Int) ≤ m.length := by omega
  go_wp2_with fail
  obtain ⟨W, hW⟩ : ∃ W, W = oddW w3 := ⟨_, rfl⟩
  show Calls _ _ _ (oddW w3) _
  have hbW := oddW_below w3
  obtain ⟨g, hg0, hgc, hgr⟩ := oddW_row w3 k hk1
  rw [← hW] at hbW hgc hgr ⊢
  clear hW
  refine (C1.out W).mono ?_
  rintro e w' ⟨rfl, rfl⟩
  have hbwW := hbw3.trans (hbW.mono hbw3.size)
  have hkI : (k : Int) < 11 := by omega
  have HR := Lib.hid hgr
  clear hgr
  have X : ∃ o : List Ins, (∃ h : 0 < o.length, (o[0].op = 14 ↔ k = 10) ∧ o.length ≤ 2) ∧ W.cell? ⟨w3.heap.size + 1 + 1 + 1 + 1 + 1 + 1 + 1 + 1 + 1 + 1 + 1, k, none⟩ = some (.slice (some ⟨g, 0, none⟩) o.length o.length) ∧ Hid (RdI W W.heap.size (some ⟨g, 0, none⟩) o) ∧ Hid ((k ≠ 10 → verify (o ++ m) = 10) ∧ (k = 10 → verify (m ++ o) = 10)) := ⟨oddC k, odd_op k hk1, hgc, HR, HBD⟩
  clear hgc HR HBD
  obtain ⟨o, ⟨ho0, ho1, ho2⟩, hgc, HR, HBD⟩ := X
  obtain ⟨q, hq⟩ : ∃ q, q = o[0].op := ⟨_, rfl⟩
  rw [← hq] at ho1
  have HQ := Lib.hid hq
  clear hq
  have hU := Tryd.underlying25
  obtain ⟨i0, hi0, hz0, hz1, hz2⟩ := info_parts info_InstrP
  have HN : Hid (verify [] = 10) := rfl
  have hl0 : ([] : List Ins).length ≤ maxLen := Nat.zero_le _
  have hb2W := (hb3.trans (hbW.mono hb3.size))
  have HM := Lib.hid (RdI.of (Rd.of_own hV2))
  go_wp2_with fail
  refine (Clone_ins (some ⟨g, 0, none⟩) o.length o.length (insCells o) W HR.out.rd (fun h => by cases h) (ins_one _) (by omega)).mono ?_
  rintro e w4 ⟨A4, c4, rfl, h4, hb4⟩
  have hm4 := HM.out.below (hb2W.trans (hb4.mono hb2W.size))
  clear hgc
  have key : k ≠ 10 ∨ k = 10 := by omega
  rcases key with hk10 | hk10
  · have hq14 : ¬ q = 14 := fun h => hk10 (ho1.1 h)
    clear ho1
    go_wp2_with (at_builtin
                 refine wpList_append_rd _ rfl (.tmp 64) (.tmp 65) _ rfl W.heap.size 45 i0 _ 4 32 hU hi0 hz0 hz1 hz2 rfl (by omega) (.slice A4 o.length c4) o.length (insCells o) rfl h4 _ A2 m.length c2 (insCells m) rfl hm4.rd (ins_one _) ?len ?byt ?bas ?_
                 case len => (unfold maxLen; omega)
                 case byt => omega
                 case bas => exact hb4.size
                 intro v5 w5 hv5 hg5 _
                 rw [← insCells_appP, ← List.length_append] at hv5
                 obtain ⟨A5, c5, rfl⟩ := own_slice hv5
                 have hb5 := hb4.grown hg5 hb4.size (fun q hq => (h4.lt q hq).1)
                 have hc5 : w5.cell? ⟨g, 0, none⟩ = some (.int .i64 q) := by
                   obtain ⟨b, o', e, _, hc⟩ := (HR.out.below hb5) ho0
                   injection e with e
                   injection e with e1 e2
                   subst e1 e2
                   have := (hc 0 ho0).1
                   rw [HQ.out]
                   simpa using this)
    have hbw5 := hbwW.trans (hb5.mono hbwW.size)
    have hlm : (o ++ m).length ≤ maxLen := by rw [List.length_append]; unfold maxLen; omega
    have VF := Verify_any A5 c5 (o ++ m) w5 (RdI.of (Rd.of_own hv5)) (ht.below hbw5) hlm
    rw [HBD.out.1 hk10, List.length_append] at VF
    refine VF.mono ?_
    rintro e w6 ⟨rfl, hb6⟩
    have hbw6 := hbw5.trans (hb6.mono hbw5.size)
    go_wp2_with fail
    refine (Verify_any none 0 [] w6 (fun h => absurd h (by simp)) (ht.below hbw6) hl0).mono ?_
    rw [HN.out]
    rintro e w7 ⟨rfl, hb7⟩
    go_wp2_with fail
    go_ret
    exact ⟨rfl, hbw6.trans (hb7.mono hbw6.size)⟩
  · have hq14 : q = 14 := ho1.2 hk10
    subst hq14
    clear ho1
    go_wp2_with (first
      | (at_builtin
         refine wpList_append_rd _ rfl (.tmp 64) (.tmp 65) _ rfl W.heap.size 45 i0 _ 4 32 hU hi0 hz0 hz1 hz2 rfl (by omega) (.slice A4 o.length c4) o.length (insCells o) rfl h4 _ A2 m.length c2 (insCells m) rfl hm4.rd (ins_one _) ?len ?byt ?bas ?_
         case len => (unfold maxLen; omega)
         case byt => omega
         case bas => exact hb4.size
         intro v5 w5 hv5 hg5 _
         rw [← insCells_appP, ← List.length_append] at hv5
         obtain ⟨A5, c5, rfl⟩ := own_slice hv5
         have hb5 := hb4.grown hg5 hb4.size (fun q hq => (h4.lt q hq).1)
         have hc5 : w5.cell? ⟨g, 0, none⟩ = some (.int .i64 14) := by
           obtain ⟨b, o', e, _, hc⟩ := (HR.out.below hb5) ho0
           injection e with e
           injection e with e1 e2
           subst e1 e2
           have := (hc 0 ho0).1
           rw [HQ.out]
           simpa using this
         have hm5 := Lib.hid ((HM.out.below (hb2W.trans (hb5.mono hb2W.size))).more (Nat.le_trans hb2W.size hb5.size)))
      | (refine (Clone_ins A2 m.length c2 (insCells m) _ hm5.out.rd (fun h => ?nil) (ins_one _) (by omega)).mono ?_
         case nil => (subst h; obtain ⟨_, _, e, _⟩ := hm5.out hm0; cases e)
         rintro e w6 ⟨A6, c6, rfl, h6, hb6⟩
         have hb6W := hb5.trans (hb6.mono hb5.size)
         have hr6 := HR.out.below hb6W)
      | (at_builtin
         refine wpList_append_rd _ rfl (.tmp 73) (.tmp 74) _ rfl _ 45 i0 _ 4 32 hU hi0 hz0 hz1 hz2 rfl (by omega) (.slice A6 m.length c6) m.length (insCells m) rfl h6 _ (some ⟨g, 0, none⟩) o.length o.length (insCells o) rfl hr6.rd (ins_one _) ?len ?byt ?bas ?_
         case len => (unfold maxLen; omega)
         case byt => omega
         case bas => exact hb6.size
         intro v7 w7 hv7 hg7 _
         rw [← insCells_appP, ← List.length_append] at hv7
         obtain ⟨A7, c7, rfl⟩ := own_slice hv7
         have hb7 := hb6.grown hg7 hb6.size (fun q hq => (h6.lt q hq).1)))
    have hbw7 := hbwW.trans ((hb5.trans (hb7.mono hb5.size)).mono hbwW.size)
    have hlm : (m ++ o).length ≤ maxLen := by rw [List.length_append]; unfold maxLen; omega
    have VF := Verify_any A7 c7 (m ++ o) w7 (RdI.of (Rd.of_own hv7)) (ht.below hbw7) hlm
    rw [HBD.out.2 hk10, List.length_append] at VF
    refine VF.mono ?_
    rintro e w8 ⟨rfl, hb8⟩
    have hbw8 := hbw7.trans (hb8.mono hbw7.size)
    go_wp2_with fail
    refine (Verify_any none 0 [] w8 (fun h => absurd h (by simp)) (ht.below hbw8) hl0).mono ?_
    rw [HN.out]
    rintro e w9 ⟨rfl, hb9⟩
    go_wp2_with fail
    go_ret
    exact ⟨rfl, hbw8.trans (hb9.mono hbw8.size)⟩
end Go.Proofs.YtdjamdbamkhblabDoor
