/- The walk of K.Code: any code of raw things. No condition. By an AI agent (xkcode.py, xkcode2.py). -/
import Derived.Test.YtdjamdbamkhblacDoorMemP
import Derived.Test.YtdjamdbamkhblacDoorKPlain
import Derived.Test.YtdjamdbamkhblacDoorInvR
import Derived.Test.YtdjamdbamkhblacDoorInvB
import Derived.Test.YtdjamdbamkhblacDoorPick
namespace Go.Proofs.YtdjamdbamkhblacDoor
open Go.RowKit
set_option linter.unusedVariables false
set_option linter.unusedSimpArgs false
theorem kc_below_drew (w : World) : Below w.heap.size w w.drew := Below.drewN' (Below.refl _ _) 1
theorem layIns {W : World} {B s : Nat} {c0 c1 c2 c3 : Value} (hB : B ≤ s) (h : Blk W s 65 #[c0, c1, c2, c3]) (v0 v1 v2 v3 : Value) :
    Blk ((((W.setCell ⟨s, 0, none⟩ v0).setCell ⟨s, 1, none⟩ v1).setCell ⟨s, 2, none⟩ v2).setCell ⟨s, 3, none⟩ v3) s 65 #[v0, v1, v2, v3] ∧ Below B W ((((W.setCell ⟨s, 0, none⟩ v0).setCell ⟨s, 1, none⟩ v1).setCell ⟨s, 2, none⟩ v2).setCell ⟨s, 3, none⟩ v3) := by
  have h0 : Blk (W.setCell ⟨s, 0, none⟩ v0) s 65 #[v0, c1, c2, c3] := h.set_ 0 v0
  have h1 : Blk ((W.setCell ⟨s, 0, none⟩ v0).setCell ⟨s, 1, none⟩ v1) s 65 #[v0, v1, c2, c3] := h0.set_ 1 v1
  have h2 : Blk (((W.setCell ⟨s, 0, none⟩ v0).setCell ⟨s, 1, none⟩ v1).setCell ⟨s, 2, none⟩ v2) s 65 #[v0, v1, v2, c3] := h1.set_ 2 v2
  refine ⟨h2.set_ 3 v3, ?_⟩
  exact (((((Below.refl B W).setCell (p := ⟨s, 0, none⟩) hB v0).setCell (p := ⟨s, 1, none⟩) hB v1).setCell (p := ⟨s, 2, none⟩) hB v2).setCell (p := ⟨s, 3, none⟩) hB v3)
/-- Li's instruction under way. -/
structure LiW (w0 : World) (g pa pb pc q : Nat) (b13 b15 : Bool) (W : World) : Prop where
  low : Below g w0 W
  blk : Blk W g 65 #[.int .i64 1, .int .i64 (pa : Int), .int .i64 (if b13 = true then 0 else (pb : Int)), .int .i64 (if b15 = true then (q : Int) else (pc : Int))]
theorem LiW.alloc {w0 : World} {g pa pb pc q : Nat} {b13 b15 : Bool} {W : World} (h : LiW w0 g pa pb pc q b13 b15 W) (o : Obj) : LiW w0 g pa pb pc q b13 b15 (W.alloc o) := ⟨h.low.alloc (Nat.le_of_lt h.blk.lt) o, h.blk.alloc o⟩
theorem LiW.set2 {w0 : World} {g pa pb pc q : Nat} {b15 : Bool} {W : World} (h : LiW w0 g pa pb pc q false b15 W) : LiW w0 g pa pb pc q true b15 (W.setCell ⟨g, 2, none⟩ (.int .i64 0)) := ⟨h.low.setCell (p := ⟨g, 2, none⟩) (Nat.le_refl _) _, h.blk.set_ 2 (.int .i64 0)⟩
theorem LiW.set3 {w0 : World} {g pa pb pc q : Nat} {b13 : Bool} {W : World} (h : LiW w0 g pa pb pc q b13 false W) : LiW w0 g pa pb pc q b13 true (W.setCell ⟨g, 3, none⟩ (.int .i64 (q : Int))) := ⟨h.low.setCell (p := ⟨g, 3, none⟩) (Nat.le_refl _) _, h.blk.set_ 3 (.int .i64 (q : Int))⟩
structure CodeJ (w0 : World) (g5 : Nat) (rk ra rb rc : Int) (pk pa pb pc : Nat) (listed : Array Bool) (W : World) (y6 y21 y22 y23 y24 y25 y26 y27 y28 y29 y30 y31 y32 y33 y34 : Value) : Prop where
  f0 : listed.getD 0 true = true → y21 = .pointer (some ⟨g5, 0, none⟩)
  f1 : listed.getD 1 true = true → y22 = .int .i64 rk
  f2 : listed.getD 2 true = true → y23 = .int .i64 (pk : Int)
  f3 : listed.getD 3 true = true → y24 = .int .i64 (1 + (pk : Int))
  f4 : listed.getD 4 true = true → y25 = .pointer (some ⟨g5, 1, none⟩)
  f5 : listed.getD 5 true = true → y26 = .int .i64 ra
  f6 : listed.getD 6 true = true → y27 = .int .i64 (pa : Int)
  f7 : listed.getD 7 true = true → y28 = .pointer (some ⟨g5, 2, none⟩)
  f8 : listed.getD 8 true = true → y29 = .int .i64 rb
  f9 : listed.getD 9 true = true → y30 = .int .i64 (pb : Int)
  f10 : listed.getD 10 true = true → y31 = .pointer (some ⟨g5, 3, none⟩)
  f11 : listed.getD 11 true = true → y32 = .int .i64 rc
  f12 : listed.getD 12 true = true → y33 = .int .i64 (pc : Int)
  f13 : listed.getD 13 true = true → y34 = .agg #[.int .i64 (1 + (pk : Int)), .int .i64 (pa : Int), .int .i64 (pb : Int), .int .i64 (pc : Int)]
  f14 : listed.getD 14 true = true → ∃ s : Nat, y6 = .pointer (some ⟨s, 0, none⟩) ∧ w0.heap.size ≤ s ∧ (listed.getD 15 true = false → Blk W s 65 #[.int .i64 0, .int .i64 0, .int .i64 0, .int .i64 0])
  f15 : listed.getD 15 true = true → ∃ s : Nat, y6 = .pointer (some ⟨s, 0, none⟩) ∧ w0.heap.size ≤ s ∧ Blk W s 65 #[.int .i64 (1 + (pk : Int)), .int .i64 (pa : Int), .int .i64 (pb : Int), .int .i64 (pc : Int)]
  q15_14 : listed.getD 15 true = true → listed.getD 14 true = true
  w : Below w0.heap.size w0 W
noncomputable def codeRegC : Code := ((Tryd.f25.body.bind (regAt 6)).getD .skip)
set_option maxRecDepth 1000000 in
set_option maxHeartbeats 8000000 in
theorem codeReg (w0 : World) (g5 : Nat) (rk ra rb rc : Int) (pk pa pb pc : Nat) {v0 v1 v2 v3 v4 v6 v7 v8 v9 v10 v11 v12 v13 v14 v15 v16 v17 v18 v19 v20 v21 v22 v23 v24 v25 v26 v27 v28 v29 v30 v31 v32 v33 v34 v35 v36 v37 v38 v39 v40 v41 v42 v43 v44 v45 v46 v47 v48 v49 v50 v51 v52 v53 v54 v55 v56 v57 v58 v59 v60 v61 v62 v63 v64 v65 v66 v67 v68 v69 v70 v71 v72 v73 v74 v75 v76 v77 v78 v79 v80 v81 v82 v83 v84 v85 v86 v87 v88 v89 v90 : Value} (wr : World) (Q : Exit → Act → World → Prop) (hbs : Below w0.heap.size w0 wr.drew) (hlg : g5 < w0.heap.size) (hc0 : w0.cell? ⟨g5, 0, none⟩ = some (.int .i64 rk)) (hc1 : w0.cell? ⟨g5, 1, none⟩ = some (.int .i64 ra)) (hc2 : w0.cell? ⟨g5, 2, none⟩ = some (.int .i64 rb)) (hc3 : w0.cell? ⟨g5, 3, none⟩ = some (.int .i64 rc)) (hpk : pk < 15) (PK : Hid (∀ W : World, Calls Tryd.prog 13 #[.int .i64 rk, .int .i64 15] W fun e w' => e = .returned (.int .i64 (pk : Nat)) ∧ W = w')) (PA : Hid (∀ W : World, Calls Tryd.prog 13 #[.int .i64 ra, .int .i64 8] W fun e w' => e = .returned (.int .i64 (pa : Nat)) ∧ W = w')) (PB : Hid (∀ W : World, Calls Tryd.prog 13 #[.int .i64 rb, .int .i64 8] W fun e w' => e = .returned (.int .i64 (pb : Nat)) ∧ W = w')) (PC : Hid (∀ W : World, Calls Tryd.prog 13 #[.int .i64 rc, .int .i64 8] W fun e w' => e = .returned (.int .i64 (pc : Nat)) ∧ W = w'))
    (hQ : ∀ (listed : Array Bool) (W : World) (y6 y21 y22 y23 y24 y25 y26 y27 y28 y29 y30 y31 y32 y33 y34 : Value), (∀ i, i < 16 → listed.getD i true = true) → CodeJ w0 g5 rk ra rb rc pk pa pb pc listed W y6 y21 y22 y23 y24 y25 y26 y27 y28 y29 y30 y31 y32 y33 y34 → Q .normal ⟨#[v0, v1, v2, v3, v4, .pointer (some ⟨g5, 0, none⟩), y6, v7, v8, v9, v10, v11, v12, v13, v14, v15, v16, v17, v18, v19, v20, y21, y22, y23, y24, y25, y26, y27, y28, y29, y30, y31, y32, y33, y34, v35, v36, v37, v38, v39, v40, v41, v42, v43, v44, v45, v46, v47, v48, v49, v50, v51, v52, v53, v54, v55, v56, v57, v58, v59, v60, v61, v62, v63, v64, v65, v66, v67, v68, v69, v70, v71, v72, v73, v74, v75, v76, v77, v78, v79, v80, v81, v82, v83, v84, v85, v86, v87, v88, v89, v90], []⟩ W) :
    Code.wp Tryd.prog codeRegC Q ⟨#[v0, v1, v2, v3, v4, .pointer (some ⟨g5, 0, none⟩), v6, v7, v8, v9, v10, v11, v12, v13, v14, v15, v16, v17, v18, v19, v20, v21, v22, v23, v24, v25, v26, v27, v28, v29, v30, v31, v32, v33, v34, v35, v36, v37, v38, v39, v40, v41, v42, v43, v44, v45, v46, v47, v48, v49, v50, v51, v52, v53, v54, v55, v56, v57, v58, v59, v60, v61, v62, v63, v64, v65, v66, v67, v68, v69, v70, v71, v72, v73, v74, v75, v76, v77, v78, v79, v80, v81, v82, v83, v84, v85, v86, v87, v88, v89, v90], []⟩ wr := by
  have HQ := Lib.hid hQ
  clear hQ
  conv => arg 2; whnf
  refine wp_region_inv (fun listed a W => ∃ y6 y21 y22 y23 y24 y25 y26 y27 y28 y29 y30 y31 y32 y33 y34, CodeJ w0 g5 rk ra rb rc pk pa pb pc listed W y6 y21 y22 y23 y24 y25 y26 y27 y28 y29 y30 y31 y32 y33 y34 ∧ a = ⟨#[v0, v1, v2, v3, v4, .pointer (some ⟨g5, 0, none⟩), y6, v7, v8, v9, v10, v11, v12, v13, v14, v15, v16, v17, v18, v19, v20, y21, y22, y23, y24, y25, y26, y27, y28, y29, y30, y31, y32, y33, y34, v35, v36, v37, v38, v39, v40, v41, v42, v43, v44, v45, v46, v47, v48, v49, v50, v51, v52, v53, v54, v55, v56, v57, v58, v59, v60, v61, v62, v63, v64, v65, v66, v67, v68, v69, v70, v71, v72, v73, v74, v75, v76, v77, v78, v79, v80, v81, v82, v83, v84, v85, v86, v87, v88, v89, v90], []⟩) (by kernel_rfl) (ord_of (by kernel_rfl)) ?start ?step ?fin
  case start => exact ⟨_, _, _, _, _, _, _, _, _, _, _, _, _, _, _, ⟨fun h => absurd h (by decide), fun h => absurd h (by decide), fun h => absurd h (by decide), fun h => absurd h (by decide), fun h => absurd h (by decide), fun h => absurd h (by decide), fun h => absurd h (by decide), fun h => absurd h (by decide), fun h => absurd h (by decide), fun h => absurd h (by decide), fun h => absurd h (by decide), fun h => absurd h (by decide), fun h => absurd h (by decide), fun h => absurd h (by decide), fun h => absurd h (by decide), fun h => absurd h (by decide), fun h => absurd h (by decide), hbs⟩, rfl⟩
  case step =>
    intro i o ho listed a W hl haf hI K hK
    obtain ⟨y6, y21, y22, y23, y24, y25, y26, y27, y28, y29, y30, y31, y32, y33, y34, hJ, rfl⟩ := hI
    have hi : i < 16 := (Array.getElem?_eq_some_iff.1 ho).1
    have h16 : i = 0 ∨ i = 1 ∨ i = 2 ∨ i = 3 ∨ i = 4 ∨ i = 5 ∨ i = 6 ∨ i = 7 ∨ i = 8 ∨ i = 9 ∨ i = 10 ∨ i = 11 ∨ i = 12 ∨ i = 13 ∨ i = 14 ∨ i = 15 := by omega
    rcases h16 with rfl | rfl | rfl | rfl | rfl | rfl | rfl | rfl | rfl | rfl | rfl | rfl | rfl | rfl | rfl | rfl
    · have ho' := Option.some.inj ho
      subst ho'
      have HJ := Lib.hid hJ
      clear hJ haf
      try unfold pt
      go_simp
      have hJ := HJ.out
      exact hK _ _ ⟨_, _, _, _, _, _, _, _, _, _, _, _, _, _, _, ⟨fun _ => rfl, fun x => hJ.f1 (upneR (by decide) x), fun x => hJ.f2 (upneR (by decide) x), fun x => hJ.f3 (upneR (by decide) x), fun x => hJ.f4 (upneR (by decide) x), fun x => hJ.f5 (upneR (by decide) x), fun x => hJ.f6 (upneR (by decide) x), fun x => hJ.f7 (upneR (by decide) x), fun x => hJ.f8 (upneR (by decide) x), fun x => hJ.f9 (upneR (by decide) x), fun x => hJ.f10 (upneR (by decide) x), fun x => hJ.f11 (upneR (by decide) x), fun x => hJ.f12 (upneR (by decide) x), fun x => hJ.f13 (upneR (by decide) x), fun x => by obtain ⟨s, e1, e2⟩ := hJ.f14 (upneR (by decide) x); exact ⟨s, e1, ⟨e2.1, fun e => e2.2 (by rw [upeqR (by decide)] at e; exact e)⟩⟩, fun x => hJ.f15 (upneR (by decide) x), fun x => by rw [upeqR (by decide)]; exact hJ.q15_14 (upneR (by decide) x), hJ.w⟩, rfl⟩
    · have ho' := Option.some.inj ho
      subst ho'
      simp [Region.binds] at haf
      have p0 : listed.getD 0 true = true := waitsR (by simp [haf])
      obtain rfl := hJ.f0 p0
      have e1 := (hJ.w.cell (p := ⟨g5, 0, none⟩) hlg).trans hc0
      have HJ := Lib.hid hJ
      clear hJ haf
      try unfold pt
      go_simp
      have hJ := HJ.out
      exact hK _ _ ⟨_, _, _, _, _, _, _, _, _, _, _, _, _, _, _, ⟨fun x => hJ.f0 (upneR (by decide) x), fun _ => rfl, fun x => hJ.f2 (upneR (by decide) x), fun x => hJ.f3 (upneR (by decide) x), fun x => hJ.f4 (upneR (by decide) x), fun x => hJ.f5 (upneR (by decide) x), fun x => hJ.f6 (upneR (by decide) x), fun x => hJ.f7 (upneR (by decide) x), fun x => hJ.f8 (upneR (by decide) x), fun x => hJ.f9 (upneR (by decide) x), fun x => hJ.f10 (upneR (by decide) x), fun x => hJ.f11 (upneR (by decide) x), fun x => hJ.f12 (upneR (by decide) x), fun x => hJ.f13 (upneR (by decide) x), fun x => by obtain ⟨s, e1, e2⟩ := hJ.f14 (upneR (by decide) x); exact ⟨s, e1, ⟨e2.1, fun e => e2.2 (by rw [upeqR (by decide)] at e; exact e)⟩⟩, fun x => hJ.f15 (upneR (by decide) x), fun x => by rw [upeqR (by decide)]; exact hJ.q15_14 (upneR (by decide) x), hJ.w⟩, rfl⟩
    · have ho' := Option.some.inj ho
      subst ho'
      simp [Region.binds] at haf
      have p1 : listed.getD 1 true = true := waitsR (by simp [haf])
      obtain rfl := hJ.f1 p1
      have HJ := Lib.hid hJ
      clear hJ haf
      try unfold pt
      go_simp
      go_at_call 13
      refine (PK.out _).mono ?_
      rintro e w' ⟨rfl, rfl⟩
      have hJ := HJ.out
      exact hK _ _ ⟨_, _, _, _, _, _, _, _, _, _, _, _, _, _, _, ⟨fun x => hJ.f0 (upneR (by decide) x), fun x => hJ.f1 (upneR (by decide) x), fun _ => rfl, fun x => hJ.f3 (upneR (by decide) x), fun x => hJ.f4 (upneR (by decide) x), fun x => hJ.f5 (upneR (by decide) x), fun x => hJ.f6 (upneR (by decide) x), fun x => hJ.f7 (upneR (by decide) x), fun x => hJ.f8 (upneR (by decide) x), fun x => hJ.f9 (upneR (by decide) x), fun x => hJ.f10 (upneR (by decide) x), fun x => hJ.f11 (upneR (by decide) x), fun x => hJ.f12 (upneR (by decide) x), fun x => hJ.f13 (upneR (by decide) x), fun x => by obtain ⟨s, e1, e2⟩ := hJ.f14 (upneR (by decide) x); exact ⟨s, e1, ⟨e2.1, fun e => e2.2 (by rw [upeqR (by decide)] at e; exact e)⟩⟩, fun x => hJ.f15 (upneR (by decide) x), fun x => by rw [upeqR (by decide)]; exact hJ.q15_14 (upneR (by decide) x), hJ.w⟩, rfl⟩
    · have ho' := Option.some.inj ho
      subst ho'
      simp [Region.binds] at haf
      have p2 : listed.getD 2 true = true := waitsR (by simp [haf])
      obtain rfl := hJ.f2 p2
      have HJ := Lib.hid hJ
      clear hJ haf
      try unfold pt
      go_simp
      simp only [Go.IntWalk.i64_in (1 + (pk : Int)) (by omega)]
      have hJ := HJ.out
      exact hK _ _ ⟨_, _, _, _, _, _, _, _, _, _, _, _, _, _, _, ⟨fun x => hJ.f0 (upneR (by decide) x), fun x => hJ.f1 (upneR (by decide) x), fun x => hJ.f2 (upneR (by decide) x), fun _ => rfl, fun x => hJ.f4 (upneR (by decide) x), fun x => hJ.f5 (upneR (by decide) x), fun x => hJ.f6 (upneR (by decide) x), fun x => hJ.f7 (upneR (by decide) x), fun x => hJ.f8 (upneR (by decide) x), fun x => hJ.f9 (upneR (by decide) x), fun x => hJ.f10 (upneR (by decide) x), fun x => hJ.f11 (upneR (by decide) x), fun x => hJ.f12 (upneR (by decide) x), fun x => hJ.f13 (upneR (by decide) x), fun x => by obtain ⟨s, e1, e2⟩ := hJ.f14 (upneR (by decide) x); exact ⟨s, e1, ⟨e2.1, fun e => e2.2 (by rw [upeqR (by decide)] at e; exact e)⟩⟩, fun x => hJ.f15 (upneR (by decide) x), fun x => by rw [upeqR (by decide)]; exact hJ.q15_14 (upneR (by decide) x), hJ.w⟩, rfl⟩
    · have ho' := Option.some.inj ho
      subst ho'
      have HJ := Lib.hid hJ
      clear hJ haf
      try unfold pt
      go_simp
      have hJ := HJ.out
      exact hK _ _ ⟨_, _, _, _, _, _, _, _, _, _, _, _, _, _, _, ⟨fun x => hJ.f0 (upneR (by decide) x), fun x => hJ.f1 (upneR (by decide) x), fun x => hJ.f2 (upneR (by decide) x), fun x => hJ.f3 (upneR (by decide) x), fun _ => rfl, fun x => hJ.f5 (upneR (by decide) x), fun x => hJ.f6 (upneR (by decide) x), fun x => hJ.f7 (upneR (by decide) x), fun x => hJ.f8 (upneR (by decide) x), fun x => hJ.f9 (upneR (by decide) x), fun x => hJ.f10 (upneR (by decide) x), fun x => hJ.f11 (upneR (by decide) x), fun x => hJ.f12 (upneR (by decide) x), fun x => hJ.f13 (upneR (by decide) x), fun x => by obtain ⟨s, e1, e2⟩ := hJ.f14 (upneR (by decide) x); exact ⟨s, e1, ⟨e2.1, fun e => e2.2 (by rw [upeqR (by decide)] at e; exact e)⟩⟩, fun x => hJ.f15 (upneR (by decide) x), fun x => by rw [upeqR (by decide)]; exact hJ.q15_14 (upneR (by decide) x), hJ.w⟩, rfl⟩
    · have ho' := Option.some.inj ho
      subst ho'
      simp [Region.binds] at haf
      have p4 : listed.getD 4 true = true := waitsR (by simp [haf])
      obtain rfl := hJ.f4 p4
      have e1 := (hJ.w.cell (p := ⟨g5, 1, none⟩) hlg).trans hc1
      have HJ := Lib.hid hJ
      clear hJ haf
      try unfold pt
      go_simp
      have hJ := HJ.out
      exact hK _ _ ⟨_, _, _, _, _, _, _, _, _, _, _, _, _, _, _, ⟨fun x => hJ.f0 (upneR (by decide) x), fun x => hJ.f1 (upneR (by decide) x), fun x => hJ.f2 (upneR (by decide) x), fun x => hJ.f3 (upneR (by decide) x), fun x => hJ.f4 (upneR (by decide) x), fun _ => rfl, fun x => hJ.f6 (upneR (by decide) x), fun x => hJ.f7 (upneR (by decide) x), fun x => hJ.f8 (upneR (by decide) x), fun x => hJ.f9 (upneR (by decide) x), fun x => hJ.f10 (upneR (by decide) x), fun x => hJ.f11 (upneR (by decide) x), fun x => hJ.f12 (upneR (by decide) x), fun x => hJ.f13 (upneR (by decide) x), fun x => by obtain ⟨s, e1, e2⟩ := hJ.f14 (upneR (by decide) x); exact ⟨s, e1, ⟨e2.1, fun e => e2.2 (by rw [upeqR (by decide)] at e; exact e)⟩⟩, fun x => hJ.f15 (upneR (by decide) x), fun x => by rw [upeqR (by decide)]; exact hJ.q15_14 (upneR (by decide) x), hJ.w⟩, rfl⟩
    · have ho' := Option.some.inj ho
      subst ho'
      simp [Region.binds] at haf
      have p5 : listed.getD 5 true = true := waitsR (by simp [haf])
      obtain rfl := hJ.f5 p5
      have HJ := Lib.hid hJ
      clear hJ haf
      try unfold pt
      go_simp
      go_at_call 13
      refine (PA.out _).mono ?_
      rintro e w' ⟨rfl, rfl⟩
      have hJ := HJ.out
      exact hK _ _ ⟨_, _, _, _, _, _, _, _, _, _, _, _, _, _, _, ⟨fun x => hJ.f0 (upneR (by decide) x), fun x => hJ.f1 (upneR (by decide) x), fun x => hJ.f2 (upneR (by decide) x), fun x => hJ.f3 (upneR (by decide) x), fun x => hJ.f4 (upneR (by decide) x), fun x => hJ.f5 (upneR (by decide) x), fun _ => rfl, fun x => hJ.f7 (upneR (by decide) x), fun x => hJ.f8 (upneR (by decide) x), fun x => hJ.f9 (upneR (by decide) x), fun x => hJ.f10 (upneR (by decide) x), fun x => hJ.f11 (upneR (by decide) x), fun x => hJ.f12 (upneR (by decide) x), fun x => hJ.f13 (upneR (by decide) x), fun x => by obtain ⟨s, e1, e2⟩ := hJ.f14 (upneR (by decide) x); exact ⟨s, e1, ⟨e2.1, fun e => e2.2 (by rw [upeqR (by decide)] at e; exact e)⟩⟩, fun x => hJ.f15 (upneR (by decide) x), fun x => by rw [upeqR (by decide)]; exact hJ.q15_14 (upneR (by decide) x), hJ.w⟩, rfl⟩
    · have ho' := Option.some.inj ho
      subst ho'
      have HJ := Lib.hid hJ
      clear hJ haf
      try unfold pt
      go_simp
      have hJ := HJ.out
      exact hK _ _ ⟨_, _, _, _, _, _, _, _, _, _, _, _, _, _, _, ⟨fun x => hJ.f0 (upneR (by decide) x), fun x => hJ.f1 (upneR (by decide) x), fun x => hJ.f2 (upneR (by decide) x), fun x => hJ.f3 (upneR (by decide) x), fun x => hJ.f4 (upneR (by decide) x), fun x => hJ.f5 (upneR (by decide) x), fun x => hJ.f6 (upneR (by decide) x), fun _ => rfl, fun x => hJ.f8 (upneR (by decide) x), fun x => hJ.f9 (upneR (by decide) x), fun x => hJ.f10 (upneR (by decide) x), fun x => hJ.f11 (upneR (by decide) x), fun x => hJ.f12 (upneR (by decide) x), fun x => hJ.f13 (upneR (by decide) x), fun x => by obtain ⟨s, e1, e2⟩ := hJ.f14 (upneR (by decide) x); exact ⟨s, e1, ⟨e2.1, fun e => e2.2 (by rw [upeqR (by decide)] at e; exact e)⟩⟩, fun x => hJ.f15 (upneR (by decide) x), fun x => by rw [upeqR (by decide)]; exact hJ.q15_14 (upneR (by decide) x), hJ.w⟩, rfl⟩
    · have ho' := Option.some.inj ho
      subst ho'
      simp [Region.binds] at haf
      have p7 : listed.getD 7 true = true := waitsR (by simp [haf])
      obtain rfl := hJ.f7 p7
      have e1 := (hJ.w.cell (p := ⟨g5, 2, none⟩) hlg).trans hc2
      have HJ := Lib.hid hJ
      clear hJ haf
      try unfold pt
      go_simp
      have hJ := HJ.out
      exact hK _ _ ⟨_, _, _, _, _, _, _, _, _, _, _, _, _, _, _, ⟨fun x => hJ.f0 (upneR (by decide) x), fun x => hJ.f1 (upneR (by decide) x), fun x => hJ.f2 (upneR (by decide) x), fun x => hJ.f3 (upneR (by decide) x), fun x => hJ.f4 (upneR (by decide) x), fun x => hJ.f5 (upneR (by decide) x), fun x => hJ.f6 (upneR (by decide) x), fun x => hJ.f7 (upneR (by decide) x), fun _ => rfl, fun x => hJ.f9 (upneR (by decide) x), fun x => hJ.f10 (upneR (by decide) x), fun x => hJ.f11 (upneR (by decide) x), fun x => hJ.f12 (upneR (by decide) x), fun x => hJ.f13 (upneR (by decide) x), fun x => by obtain ⟨s, e1, e2⟩ := hJ.f14 (upneR (by decide) x); exact ⟨s, e1, ⟨e2.1, fun e => e2.2 (by rw [upeqR (by decide)] at e; exact e)⟩⟩, fun x => hJ.f15 (upneR (by decide) x), fun x => by rw [upeqR (by decide)]; exact hJ.q15_14 (upneR (by decide) x), hJ.w⟩, rfl⟩
    · have ho' := Option.some.inj ho
      subst ho'
      simp [Region.binds] at haf
      have p8 : listed.getD 8 true = true := waitsR (by simp [haf])
      obtain rfl := hJ.f8 p8
      have HJ := Lib.hid hJ
      clear hJ haf
      try unfold pt
      go_simp
      go_at_call 13
      refine (PB.out _).mono ?_
      rintro e w' ⟨rfl, rfl⟩
      have hJ := HJ.out
      exact hK _ _ ⟨_, _, _, _, _, _, _, _, _, _, _, _, _, _, _, ⟨fun x => hJ.f0 (upneR (by decide) x), fun x => hJ.f1 (upneR (by decide) x), fun x => hJ.f2 (upneR (by decide) x), fun x => hJ.f3 (upneR (by decide) x), fun x => hJ.f4 (upneR (by decide) x), fun x => hJ.f5 (upneR (by decide) x), fun x => hJ.f6 (upneR (by decide) x), fun x => hJ.f7 (upneR (by decide) x), fun x => hJ.f8 (upneR (by decide) x), fun _ => rfl, fun x => hJ.f10 (upneR (by decide) x), fun x => hJ.f11 (upneR (by decide) x), fun x => hJ.f12 (upneR (by decide) x), fun x => hJ.f13 (upneR (by decide) x), fun x => by obtain ⟨s, e1, e2⟩ := hJ.f14 (upneR (by decide) x); exact ⟨s, e1, ⟨e2.1, fun e => e2.2 (by rw [upeqR (by decide)] at e; exact e)⟩⟩, fun x => hJ.f15 (upneR (by decide) x), fun x => by rw [upeqR (by decide)]; exact hJ.q15_14 (upneR (by decide) x), hJ.w⟩, rfl⟩
    · have ho' := Option.some.inj ho
      subst ho'
      have HJ := Lib.hid hJ
      clear hJ haf
      try unfold pt
      go_simp
      have hJ := HJ.out
      exact hK _ _ ⟨_, _, _, _, _, _, _, _, _, _, _, _, _, _, _, ⟨fun x => hJ.f0 (upneR (by decide) x), fun x => hJ.f1 (upneR (by decide) x), fun x => hJ.f2 (upneR (by decide) x), fun x => hJ.f3 (upneR (by decide) x), fun x => hJ.f4 (upneR (by decide) x), fun x => hJ.f5 (upneR (by decide) x), fun x => hJ.f6 (upneR (by decide) x), fun x => hJ.f7 (upneR (by decide) x), fun x => hJ.f8 (upneR (by decide) x), fun x => hJ.f9 (upneR (by decide) x), fun _ => rfl, fun x => hJ.f11 (upneR (by decide) x), fun x => hJ.f12 (upneR (by decide) x), fun x => hJ.f13 (upneR (by decide) x), fun x => by obtain ⟨s, e1, e2⟩ := hJ.f14 (upneR (by decide) x); exact ⟨s, e1, ⟨e2.1, fun e => e2.2 (by rw [upeqR (by decide)] at e; exact e)⟩⟩, fun x => hJ.f15 (upneR (by decide) x), fun x => by rw [upeqR (by decide)]; exact hJ.q15_14 (upneR (by decide) x), hJ.w⟩, rfl⟩
    · have ho' := Option.some.inj ho
      subst ho'
      simp [Region.binds] at haf
      have p10 : listed.getD 10 true = true := waitsR (by simp [haf])
      obtain rfl := hJ.f10 p10
      have e1 := (hJ.w.cell (p := ⟨g5, 3, none⟩) hlg).trans hc3
      have HJ := Lib.hid hJ
      clear hJ haf
      try unfold pt
      go_simp
      have hJ := HJ.out
      exact hK _ _ ⟨_, _, _, _, _, _, _, _, _, _, _, _, _, _, _, ⟨fun x => hJ.f0 (upneR (by decide) x), fun x => hJ.f1 (upneR (by decide) x), fun x => hJ.f2 (upneR (by decide) x), fun x => hJ.f3 (upneR (by decide) x), fun x => hJ.f4 (upneR (by decide) x), fun x => hJ.f5 (upneR (by decide) x), fun x => hJ.f6 (upneR (by decide) x), fun x => hJ.f7 (upneR (by decide) x), fun x => hJ.f8 (upneR (by decide) x), fun x => hJ.f9 (upneR (by decide) x), fun x => hJ.f10 (upneR (by decide) x), fun _ => rfl, fun x => hJ.f12 (upneR (by decide) x), fun x => hJ.f13 (upneR (by decide) x), fun x => by obtain ⟨s, e1, e2⟩ := hJ.f14 (upneR (by decide) x); exact ⟨s, e1, ⟨e2.1, fun e => e2.2 (by rw [upeqR (by decide)] at e; exact e)⟩⟩, fun x => hJ.f15 (upneR (by decide) x), fun x => by rw [upeqR (by decide)]; exact hJ.q15_14 (upneR (by decide) x), hJ.w⟩, rfl⟩
    · have ho' := Option.some.inj ho
      subst ho'
      simp [Region.binds] at haf
      have p11 : listed.getD 11 true = true := waitsR (by simp [haf])
      obtain rfl := hJ.f11 p11
      have HJ := Lib.hid hJ
      clear hJ haf
      try unfold pt
      go_simp
      go_at_call 13
      refine (PC.out _).mono ?_
      rintro e w' ⟨rfl, rfl⟩
      have hJ := HJ.out
      exact hK _ _ ⟨_, _, _, _, _, _, _, _, _, _, _, _, _, _, _, ⟨fun x => hJ.f0 (upneR (by decide) x), fun x => hJ.f1 (upneR (by decide) x), fun x => hJ.f2 (upneR (by decide) x), fun x => hJ.f3 (upneR (by decide) x), fun x => hJ.f4 (upneR (by decide) x), fun x => hJ.f5 (upneR (by decide) x), fun x => hJ.f6 (upneR (by decide) x), fun x => hJ.f7 (upneR (by decide) x), fun x => hJ.f8 (upneR (by decide) x), fun x => hJ.f9 (upneR (by decide) x), fun x => hJ.f10 (upneR (by decide) x), fun x => hJ.f11 (upneR (by decide) x), fun _ => rfl, fun x => hJ.f13 (upneR (by decide) x), fun x => by obtain ⟨s, e1, e2⟩ := hJ.f14 (upneR (by decide) x); exact ⟨s, e1, ⟨e2.1, fun e => e2.2 (by rw [upeqR (by decide)] at e; exact e)⟩⟩, fun x => hJ.f15 (upneR (by decide) x), fun x => by rw [upeqR (by decide)]; exact hJ.q15_14 (upneR (by decide) x), hJ.w⟩, rfl⟩
    · have ho' := Option.some.inj ho
      subst ho'
      simp [Region.binds] at haf
      have p3 : listed.getD 3 true = true := waitsR (by simp [haf])
      have p6 : listed.getD 6 true = true := waitsR (by simp [haf])
      have p9 : listed.getD 9 true = true := waitsR (by simp [haf])
      have p12 : listed.getD 12 true = true := waitsR (by simp [haf])
      obtain rfl := hJ.f3 p3
      obtain rfl := hJ.f6 p6
      obtain rfl := hJ.f9 p9
      obtain rfl := hJ.f12 p12
      have HJ := Lib.hid hJ
      clear hJ haf
      try unfold pt
      go_simp
      have hJ := HJ.out
      exact hK _ _ ⟨_, _, _, _, _, _, _, _, _, _, _, _, _, _, _, ⟨fun x => hJ.f0 (upneR (by decide) x), fun x => hJ.f1 (upneR (by decide) x), fun x => hJ.f2 (upneR (by decide) x), fun x => hJ.f3 (upneR (by decide) x), fun x => hJ.f4 (upneR (by decide) x), fun x => hJ.f5 (upneR (by decide) x), fun x => hJ.f6 (upneR (by decide) x), fun x => hJ.f7 (upneR (by decide) x), fun x => hJ.f8 (upneR (by decide) x), fun x => hJ.f9 (upneR (by decide) x), fun x => hJ.f10 (upneR (by decide) x), fun x => hJ.f11 (upneR (by decide) x), fun x => hJ.f12 (upneR (by decide) x), fun _ => rfl, fun x => by obtain ⟨s, e1, e2⟩ := hJ.f14 (upneR (by decide) x); exact ⟨s, e1, ⟨e2.1, fun e => e2.2 (by rw [upeqR (by decide)] at e; exact e)⟩⟩, fun x => hJ.f15 (upneR (by decide) x), fun x => by rw [upeqR (by decide)]; exact hJ.q15_14 (upneR (by decide) x), hJ.w⟩, rfl⟩
    · have ho' := Option.some.inj ho
      subst ho'
      have HJ := Lib.hid hJ
      clear hJ haf
      try unfold pt
      go_simp
      have hJ := HJ.out
      exact hK _ _ ⟨_, _, _, _, _, _, _, _, _, _, _, _, _, _, _, ⟨fun x => hJ.f0 (upneR (by decide) x), fun x => hJ.f1 (upneR (by decide) x), fun x => hJ.f2 (upneR (by decide) x), fun x => hJ.f3 (upneR (by decide) x), fun x => hJ.f4 (upneR (by decide) x), fun x => hJ.f5 (upneR (by decide) x), fun x => hJ.f6 (upneR (by decide) x), fun x => hJ.f7 (upneR (by decide) x), fun x => hJ.f8 (upneR (by decide) x), fun x => hJ.f9 (upneR (by decide) x), fun x => hJ.f10 (upneR (by decide) x), fun x => hJ.f11 (upneR (by decide) x), fun x => hJ.f12 (upneR (by decide) x), fun x => hJ.f13 (upneR (by decide) x), fun _ => ⟨W.heap.size, rfl, hJ.w.size, fun _ => Blk.new _ _ _⟩, fun x => by have e := hJ.q15_14 (upneR (by decide) x); rw [hl] at e; exact absurd e (by decide), fun _ => upselfR, hJ.w.alloc hJ.w.size _⟩, rfl⟩
    · have ho' := Option.some.inj ho
      subst ho'
      simp [Region.binds] at haf
      have p14 : listed.getD 14 true = true := waitsR (by simp [haf])
      have p13 : listed.getD 13 true = true := waitsR (by simp [haf])
      obtain ⟨s14, rfl, hE14⟩ := hJ.f14 p14
      obtain rfl := hJ.f13 p13
      obtain ⟨hge, hbl⟩ := hE14
      have hbl := hbl hl
      have hlt := hbl.lt
      have fz0 := hbl.frozen 0
      have fz1 := hbl.frozen 1
      have fz2 := hbl.frozen 2
      have fz3 := hbl.frozen 3
      have m0 := hbl.cell 0
      have m1 := hbl.cell 1
      have m2 := hbl.cell 2
      have m3 := hbl.cell 3
      simp at m0 m1 m2 m3
      have HL := Lib.hid (layIns (B := w0.heap.size) hge hbl (.int .i64 (1 + (pk : Int))) (.int .i64 (pa : Int)) (.int .i64 (pb : Int)) (.int .i64 (pc : Int)))
      have HJ := Lib.hid hJ
      clear hJ haf
      try unfold pt
      go_simp
      have hJ := HJ.out
      have L := HL.out
      exact hK _ _ ⟨_, _, _, _, _, _, _, _, _, _, _, _, _, _, _, ⟨fun x => hJ.f0 (upneR (by decide) x), fun x => hJ.f1 (upneR (by decide) x), fun x => hJ.f2 (upneR (by decide) x), fun x => hJ.f3 (upneR (by decide) x), fun x => hJ.f4 (upneR (by decide) x), fun x => hJ.f5 (upneR (by decide) x), fun x => hJ.f6 (upneR (by decide) x), fun x => hJ.f7 (upneR (by decide) x), fun x => hJ.f8 (upneR (by decide) x), fun x => hJ.f9 (upneR (by decide) x), fun x => hJ.f10 (upneR (by decide) x), fun x => hJ.f11 (upneR (by decide) x), fun x => hJ.f12 (upneR (by decide) x), fun x => hJ.f13 (upneR (by decide) x), fun x => by obtain ⟨s, e1, e2⟩ := hJ.f14 (upneR (by decide) x); exact ⟨s, e1, ⟨e2.1, fun e => absurd e (by rw [upselfR]; decide)⟩⟩, fun _ => ⟨s14, rfl, hge, L.1⟩, fun _ => by rw [upeqR (by decide)]; exact p14, hJ.w.trans L.2⟩, rfl⟩
  case fin =>
    intro listed a W hall hI
    obtain ⟨y6, y21, y22, y23, y24, y25, y26, y27, y28, y29, y30, y31, y32, y33, y34, hJ, rfl⟩ := hI
    exact HQ.out listed W _ _ _ _ _ _ _ _ _ _ _ _ _ _ _ hall hJ
structure CodeJ9 (w0 : World) (g5 g : Nat) (rb rc : Int) (pa pb pc q100 qw q2 q : Nat) (listed : Array Bool) (W : World) (y39 y40 y41 y42 y43 y44 y45 y46 y47 y48 y49 y50 y51 y52 : Value) : Prop where
  f0 : listed.getD 0 true = true → y39 = .pointer (some ⟨g5, 3, none⟩)
  f1 : listed.getD 1 true = true → y40 = .int .i64 rc
  f2 : listed.getD 2 true = true → y41 = .int .i64 (q100 : Int)
  f3 : listed.getD 3 true = true → y42 = .pointer (some ⟨g5, 3, none⟩)
  f4 : listed.getD 4 true = true → y43 = .int .i64 rc
  f5 : listed.getD 5 true = true → y44 = .int .i64 (qw : Int)
  f6 : listed.getD 6 true = true → ∃ s : Nat, y45 = .slice (some ⟨s, 0, none⟩) 2 2 ∧ g < s ∧ Blk W s 3 #[.int .i64 (q100 : Int), .int .i64 (qw : Int)]
  f7 : listed.getD 7 true = true → y46 = .pointer (some ⟨g5, 2, none⟩)
  f8 : listed.getD 8 true = true → y47 = .int .i64 rb
  f9 : listed.getD 9 true = true → y48 = .int .i64 (q2 : Int)
  f10 : listed.getD 10 true = true → ∃ s : Nat, y49 = .pointer (some ⟨s, q2, none⟩) ∧ g < s ∧ Blk W s 3 #[.int .i64 (q100 : Int), .int .i64 (qw : Int)]
  f11 : listed.getD 11 true = true → y50 = .int .i64 (q : Int)
  f12 : listed.getD 12 true = true → y51 = .pointer (some ⟨g, 2, none⟩)
  f13 : listed.getD 13 true = true → True
  f14 : listed.getD 14 true = true → y52 = .pointer (some ⟨g, 3, none⟩)
  f15 : listed.getD 15 true = true → True
  w : LiW w0 g pa pb pc q (listed.getD 13 true) (listed.getD 15 true) W
noncomputable def codeReg9C : Code := ((Tryd.f25.body.bind (regAt 9)).getD .skip)
set_option maxRecDepth 1000000 in
set_option maxHeartbeats 8000000 in
theorem codeReg9 (w0 : World) (g5 g : Nat) (rb rc : Int) (pa pb pc q100 qw q2 q : Nat) {v0 v1 v2 v3 v4 v7 v8 v9 v10 v11 v12 v13 v14 v15 v16 v17 v18 v19 v20 v21 v22 v23 v24 v25 v26 v27 v28 v29 v30 v31 v32 v33 v34 v35 v36 v37 v38 v39 v40 v41 v42 v43 v44 v45 v46 v47 v48 v49 v50 v51 v52 v53 v54 v55 v56 v57 v58 v59 v60 v61 v62 v63 v64 v65 v66 v67 v68 v69 v70 v71 v72 v73 v74 v75 v76 v77 v78 v79 v80 v81 v82 v83 v84 v85 v86 v87 v88 v89 v90 : Value} (wr : World) (Q : Exit → Act → World → Prop) (hlg : g5 < g) (hc2 : w0.cell? ⟨g5, 2, none⟩ = some (.int .i64 rb)) (hc3 : w0.cell? ⟨g5, 3, none⟩ = some (.int .i64 rc)) (hq2l : q2 < 2) (hqq : (q2 = 0 ∧ q = q100) ∨ (q2 = 1 ∧ q = qw)) (hs : LiW w0 g pa pb pc q false false wr.drew) (PH : Hid (∀ W : World, Calls Tryd.prog 13 #[.int .i64 rc, .int .i64 100] W fun e w' => e = .returned (.int .i64 (q100 : Nat)) ∧ W = w')) (PW : Hid (∀ W : World, Calls Tryd.prog 13 #[.int .i64 rc, .int .i64 65536] W fun e w' => e = .returned (.int .i64 (qw : Nat)) ∧ W = w')) (PT : Hid (∀ W : World, Calls Tryd.prog 13 #[.int .i64 rb, .int .i64 2] W fun e w' => e = .returned (.int .i64 (q2 : Nat)) ∧ W = w'))
    (hQ : ∀ (listed : Array Bool) (W : World) (y39 y40 y41 y42 y43 y44 y45 y46 y47 y48 y49 y50 y51 y52 : Value), (∀ i, i < 16 → listed.getD i true = true) → CodeJ9 w0 g5 g rb rc pa pb pc q100 qw q2 q listed W y39 y40 y41 y42 y43 y44 y45 y46 y47 y48 y49 y50 y51 y52 → Q .normal ⟨#[v0, v1, v2, v3, v4, .pointer (some ⟨g5, 0, none⟩), .pointer (some ⟨g, 0, none⟩), v7, v8, v9, v10, v11, v12, v13, v14, v15, v16, v17, v18, v19, v20, v21, v22, v23, v24, v25, v26, v27, v28, v29, v30, v31, v32, v33, v34, v35, v36, v37, v38, y39, y40, y41, y42, y43, y44, y45, y46, y47, y48, y49, y50, y51, y52, v53, v54, v55, v56, v57, v58, v59, v60, v61, v62, v63, v64, v65, v66, v67, v68, v69, v70, v71, v72, v73, v74, v75, v76, v77, v78, v79, v80, v81, v82, v83, v84, v85, v86, v87, v88, v89, v90], []⟩ W) :
    Code.wp Tryd.prog codeReg9C Q ⟨#[v0, v1, v2, v3, v4, .pointer (some ⟨g5, 0, none⟩), .pointer (some ⟨g, 0, none⟩), v7, v8, v9, v10, v11, v12, v13, v14, v15, v16, v17, v18, v19, v20, v21, v22, v23, v24, v25, v26, v27, v28, v29, v30, v31, v32, v33, v34, v35, v36, v37, v38, v39, v40, v41, v42, v43, v44, v45, v46, v47, v48, v49, v50, v51, v52, v53, v54, v55, v56, v57, v58, v59, v60, v61, v62, v63, v64, v65, v66, v67, v68, v69, v70, v71, v72, v73, v74, v75, v76, v77, v78, v79, v80, v81, v82, v83, v84, v85, v86, v87, v88, v89, v90], []⟩ wr := by
  have HQ := Lib.hid hQ
  clear hQ
  conv => arg 2; whnf
  refine wp_region_invB (fun listed a W => ∃ y39 y40 y41 y42 y43 y44 y45 y46 y47 y48 y49 y50 y51 y52, CodeJ9 w0 g5 g rb rc pa pb pc q100 qw q2 q listed W y39 y40 y41 y42 y43 y44 y45 y46 y47 y48 y49 y50 y51 y52 ∧ a = ⟨#[v0, v1, v2, v3, v4, .pointer (some ⟨g5, 0, none⟩), .pointer (some ⟨g, 0, none⟩), v7, v8, v9, v10, v11, v12, v13, v14, v15, v16, v17, v18, v19, v20, v21, v22, v23, v24, v25, v26, v27, v28, v29, v30, v31, v32, v33, v34, v35, v36, v37, v38, y39, y40, y41, y42, y43, y44, y45, y46, y47, y48, y49, y50, y51, y52, v53, v54, v55, v56, v57, v58, v59, v60, v61, v62, v63, v64, v65, v66, v67, v68, v69, v70, v71, v72, v73, v74, v75, v76, v77, v78, v79, v80, v81, v82, v83, v84, v85, v86, v87, v88, v89, v90], []⟩) (by kernel_rfl) (ord_ofB (by kernel_rfl)) ?start ?step ?fin
  case start => exact ⟨_, _, _, _, _, _, _, _, _, _, _, _, _, _, ⟨fun h => absurd h (by decide), fun h => absurd h (by decide), fun h => absurd h (by decide), fun h => absurd h (by decide), fun h => absurd h (by decide), fun h => absurd h (by decide), fun h => absurd h (by decide), fun h => absurd h (by decide), fun h => absurd h (by decide), fun h => absurd h (by decide), fun h => absurd h (by decide), fun h => absurd h (by decide), fun h => absurd h (by decide), fun h => absurd h (by decide), fun h => absurd h (by decide), fun h => absurd h (by decide), hs⟩, rfl⟩
  case step =>
    intro i o ho listed a W hl haf hI K hK
    obtain ⟨y39, y40, y41, y42, y43, y44, y45, y46, y47, y48, y49, y50, y51, y52, hJ, rfl⟩ := hI
    have hi : i < 16 := (Array.getElem?_eq_some_iff.1 ho).1
    have h16 : i = 0 ∨ i = 1 ∨ i = 2 ∨ i = 3 ∨ i = 4 ∨ i = 5 ∨ i = 6 ∨ i = 7 ∨ i = 8 ∨ i = 9 ∨ i = 10 ∨ i = 11 ∨ i = 12 ∨ i = 13 ∨ i = 14 ∨ i = 15 := by omega
    rcases h16 with rfl | rfl | rfl | rfl | rfl | rfl | rfl | rfl | rfl | rfl | rfl | rfl | rfl | rfl | rfl | rfl
    · have ho' := Option.some.inj ho
      subst ho'
      have HJ := Lib.hid hJ
      clear hJ haf
      try unfold pt
      go_simp
      have hJ := HJ.out
      exact hK _ _ ⟨_, _, _, _, _, _, _, _, _, _, _, _, _, _, ⟨fun _ => rfl, fun x => hJ.f1 (upneR (by decide) x), fun x => hJ.f2 (upneR (by decide) x), fun x => hJ.f3 (upneR (by decide) x), fun x => hJ.f4 (upneR (by decide) x), fun x => hJ.f5 (upneR (by decide) x), fun x => hJ.f6 (upneR (by decide) x), fun x => hJ.f7 (upneR (by decide) x), fun x => hJ.f8 (upneR (by decide) x), fun x => hJ.f9 (upneR (by decide) x), fun x => hJ.f10 (upneR (by decide) x), fun x => hJ.f11 (upneR (by decide) x), fun x => hJ.f12 (upneR (by decide) x), fun x => hJ.f13 (upneR (by decide) x), fun x => hJ.f14 (upneR (by decide) x), fun x => hJ.f15 (upneR (by decide) x), (by rw [upeqR (by decide), upeqR (by decide)]; exact hJ.w)⟩, rfl⟩
    · have ho' := Option.some.inj ho
      subst ho'
      simp [Region.binds] at haf
      have p0 : listed.getD 0 true = true := waitsR (by simp [haf])
      obtain rfl := hJ.f0 p0
      have e1 := (hJ.w.low.cell (p := ⟨g5, 3, none⟩) hlg).trans hc3
      have HJ := Lib.hid hJ
      clear hJ haf
      try unfold pt
      go_simp
      have hJ := HJ.out
      exact hK _ _ ⟨_, _, _, _, _, _, _, _, _, _, _, _, _, _, ⟨fun x => hJ.f0 (upneR (by decide) x), fun _ => rfl, fun x => hJ.f2 (upneR (by decide) x), fun x => hJ.f3 (upneR (by decide) x), fun x => hJ.f4 (upneR (by decide) x), fun x => hJ.f5 (upneR (by decide) x), fun x => hJ.f6 (upneR (by decide) x), fun x => hJ.f7 (upneR (by decide) x), fun x => hJ.f8 (upneR (by decide) x), fun x => hJ.f9 (upneR (by decide) x), fun x => hJ.f10 (upneR (by decide) x), fun x => hJ.f11 (upneR (by decide) x), fun x => hJ.f12 (upneR (by decide) x), fun x => hJ.f13 (upneR (by decide) x), fun x => hJ.f14 (upneR (by decide) x), fun x => hJ.f15 (upneR (by decide) x), (by rw [upeqR (by decide), upeqR (by decide)]; exact hJ.w)⟩, rfl⟩
    · have ho' := Option.some.inj ho
      subst ho'
      simp [Region.binds] at haf
      have p1 : listed.getD 1 true = true := waitsR (by simp [haf])
      obtain rfl := hJ.f1 p1
      have HJ := Lib.hid hJ
      clear hJ haf
      try unfold pt
      go_simp
      go_at_call 13
      refine (PH.out _).mono ?_
      rintro e w' ⟨rfl, rfl⟩
      have hJ := HJ.out
      exact hK _ _ ⟨_, _, _, _, _, _, _, _, _, _, _, _, _, _, ⟨fun x => hJ.f0 (upneR (by decide) x), fun x => hJ.f1 (upneR (by decide) x), fun _ => rfl, fun x => hJ.f3 (upneR (by decide) x), fun x => hJ.f4 (upneR (by decide) x), fun x => hJ.f5 (upneR (by decide) x), fun x => hJ.f6 (upneR (by decide) x), fun x => hJ.f7 (upneR (by decide) x), fun x => hJ.f8 (upneR (by decide) x), fun x => hJ.f9 (upneR (by decide) x), fun x => hJ.f10 (upneR (by decide) x), fun x => hJ.f11 (upneR (by decide) x), fun x => hJ.f12 (upneR (by decide) x), fun x => hJ.f13 (upneR (by decide) x), fun x => hJ.f14 (upneR (by decide) x), fun x => hJ.f15 (upneR (by decide) x), (by rw [upeqR (by decide), upeqR (by decide)]; exact hJ.w)⟩, rfl⟩
    · have ho' := Option.some.inj ho
      subst ho'
      have HJ := Lib.hid hJ
      clear hJ haf
      try unfold pt
      go_simp
      have hJ := HJ.out
      exact hK _ _ ⟨_, _, _, _, _, _, _, _, _, _, _, _, _, _, ⟨fun x => hJ.f0 (upneR (by decide) x), fun x => hJ.f1 (upneR (by decide) x), fun x => hJ.f2 (upneR (by decide) x), fun _ => rfl, fun x => hJ.f4 (upneR (by decide) x), fun x => hJ.f5 (upneR (by decide) x), fun x => hJ.f6 (upneR (by decide) x), fun x => hJ.f7 (upneR (by decide) x), fun x => hJ.f8 (upneR (by decide) x), fun x => hJ.f9 (upneR (by decide) x), fun x => hJ.f10 (upneR (by decide) x), fun x => hJ.f11 (upneR (by decide) x), fun x => hJ.f12 (upneR (by decide) x), fun x => hJ.f13 (upneR (by decide) x), fun x => hJ.f14 (upneR (by decide) x), fun x => hJ.f15 (upneR (by decide) x), (by rw [upeqR (by decide), upeqR (by decide)]; exact hJ.w)⟩, rfl⟩
    · have ho' := Option.some.inj ho
      subst ho'
      simp [Region.binds] at haf
      have p3 : listed.getD 3 true = true := waitsR (by simp [haf])
      obtain rfl := hJ.f3 p3
      have e1 := (hJ.w.low.cell (p := ⟨g5, 3, none⟩) hlg).trans hc3
      have HJ := Lib.hid hJ
      clear hJ haf
      try unfold pt
      go_simp
      have hJ := HJ.out
      exact hK _ _ ⟨_, _, _, _, _, _, _, _, _, _, _, _, _, _, ⟨fun x => hJ.f0 (upneR (by decide) x), fun x => hJ.f1 (upneR (by decide) x), fun x => hJ.f2 (upneR (by decide) x), fun x => hJ.f3 (upneR (by decide) x), fun _ => rfl, fun x => hJ.f5 (upneR (by decide) x), fun x => hJ.f6 (upneR (by decide) x), fun x => hJ.f7 (upneR (by decide) x), fun x => hJ.f8 (upneR (by decide) x), fun x => hJ.f9 (upneR (by decide) x), fun x => hJ.f10 (upneR (by decide) x), fun x => hJ.f11 (upneR (by decide) x), fun x => hJ.f12 (upneR (by decide) x), fun x => hJ.f13 (upneR (by decide) x), fun x => hJ.f14 (upneR (by decide) x), fun x => hJ.f15 (upneR (by decide) x), (by rw [upeqR (by decide), upeqR (by decide)]; exact hJ.w)⟩, rfl⟩
    · have ho' := Option.some.inj ho
      subst ho'
      simp [Region.binds] at haf
      have p4 : listed.getD 4 true = true := waitsR (by simp [haf])
      obtain rfl := hJ.f4 p4
      have HJ := Lib.hid hJ
      clear hJ haf
      try unfold pt
      go_simp
      go_at_call 13
      refine (PW.out _).mono ?_
      rintro e w' ⟨rfl, rfl⟩
      have hJ := HJ.out
      exact hK _ _ ⟨_, _, _, _, _, _, _, _, _, _, _, _, _, _, ⟨fun x => hJ.f0 (upneR (by decide) x), fun x => hJ.f1 (upneR (by decide) x), fun x => hJ.f2 (upneR (by decide) x), fun x => hJ.f3 (upneR (by decide) x), fun x => hJ.f4 (upneR (by decide) x), fun _ => rfl, fun x => hJ.f6 (upneR (by decide) x), fun x => hJ.f7 (upneR (by decide) x), fun x => hJ.f8 (upneR (by decide) x), fun x => hJ.f9 (upneR (by decide) x), fun x => hJ.f10 (upneR (by decide) x), fun x => hJ.f11 (upneR (by decide) x), fun x => hJ.f12 (upneR (by decide) x), fun x => hJ.f13 (upneR (by decide) x), fun x => hJ.f14 (upneR (by decide) x), fun x => hJ.f15 (upneR (by decide) x), (by rw [upeqR (by decide), upeqR (by decide)]; exact hJ.w)⟩, rfl⟩
    · have ho' := Option.some.inj ho
      subst ho'
      simp [Region.binds] at haf
      have p2 : listed.getD 2 true = true := waitsR (by simp [haf])
      have p5 : listed.getD 5 true = true := waitsR (by simp [haf])
      obtain rfl := hJ.f2 p2
      obtain rfl := hJ.f5 p5
      have hgl := hJ.w.blk.lt
      have HJ := Lib.hid hJ
      clear hJ haf
      try unfold pt
      go_simp
      have hJ := HJ.out
      exact hK _ _ ⟨_, _, _, _, _, _, _, _, _, _, _, _, _, _, ⟨fun x => hJ.f0 (upneR (by decide) x), fun x => hJ.f1 (upneR (by decide) x), fun x => hJ.f2 (upneR (by decide) x), fun x => hJ.f3 (upneR (by decide) x), fun x => hJ.f4 (upneR (by decide) x), fun x => hJ.f5 (upneR (by decide) x), fun _ => ⟨W.heap.size, rfl, hgl, Blk.new _ _ _⟩, fun x => hJ.f7 (upneR (by decide) x), fun x => hJ.f8 (upneR (by decide) x), fun x => hJ.f9 (upneR (by decide) x), fun x => by obtain ⟨s, e1, e2⟩ := hJ.f10 (upneR (by decide) x); exact ⟨s, e1, ⟨e2.1, e2.2.alloc _⟩⟩, fun x => hJ.f11 (upneR (by decide) x), fun x => hJ.f12 (upneR (by decide) x), fun x => hJ.f13 (upneR (by decide) x), fun x => hJ.f14 (upneR (by decide) x), fun x => hJ.f15 (upneR (by decide) x), (by rw [upeqR (by decide), upeqR (by decide)]; exact hJ.w.alloc _)⟩, rfl⟩
    · have ho' := Option.some.inj ho
      subst ho'
      have HJ := Lib.hid hJ
      clear hJ haf
      try unfold pt
      go_simp
      have hJ := HJ.out
      exact hK _ _ ⟨_, _, _, _, _, _, _, _, _, _, _, _, _, _, ⟨fun x => hJ.f0 (upneR (by decide) x), fun x => hJ.f1 (upneR (by decide) x), fun x => hJ.f2 (upneR (by decide) x), fun x => hJ.f3 (upneR (by decide) x), fun x => hJ.f4 (upneR (by decide) x), fun x => hJ.f5 (upneR (by decide) x), fun x => hJ.f6 (upneR (by decide) x), fun _ => rfl, fun x => hJ.f8 (upneR (by decide) x), fun x => hJ.f9 (upneR (by decide) x), fun x => hJ.f10 (upneR (by decide) x), fun x => hJ.f11 (upneR (by decide) x), fun x => hJ.f12 (upneR (by decide) x), fun x => hJ.f13 (upneR (by decide) x), fun x => hJ.f14 (upneR (by decide) x), fun x => hJ.f15 (upneR (by decide) x), (by rw [upeqR (by decide), upeqR (by decide)]; exact hJ.w)⟩, rfl⟩
    · have ho' := Option.some.inj ho
      subst ho'
      simp [Region.binds] at haf
      have p7 : listed.getD 7 true = true := waitsR (by simp [haf])
      obtain rfl := hJ.f7 p7
      have e1 := (hJ.w.low.cell (p := ⟨g5, 2, none⟩) hlg).trans hc2
      have HJ := Lib.hid hJ
      clear hJ haf
      try unfold pt
      go_simp
      have hJ := HJ.out
      exact hK _ _ ⟨_, _, _, _, _, _, _, _, _, _, _, _, _, _, ⟨fun x => hJ.f0 (upneR (by decide) x), fun x => hJ.f1 (upneR (by decide) x), fun x => hJ.f2 (upneR (by decide) x), fun x => hJ.f3 (upneR (by decide) x), fun x => hJ.f4 (upneR (by decide) x), fun x => hJ.f5 (upneR (by decide) x), fun x => hJ.f6 (upneR (by decide) x), fun x => hJ.f7 (upneR (by decide) x), fun _ => rfl, fun x => hJ.f9 (upneR (by decide) x), fun x => hJ.f10 (upneR (by decide) x), fun x => hJ.f11 (upneR (by decide) x), fun x => hJ.f12 (upneR (by decide) x), fun x => hJ.f13 (upneR (by decide) x), fun x => hJ.f14 (upneR (by decide) x), fun x => hJ.f15 (upneR (by decide) x), (by rw [upeqR (by decide), upeqR (by decide)]; exact hJ.w)⟩, rfl⟩
    · have ho' := Option.some.inj ho
      subst ho'
      simp [Region.binds] at haf
      have p8 : listed.getD 8 true = true := waitsR (by simp [haf])
      obtain rfl := hJ.f8 p8
      have HJ := Lib.hid hJ
      clear hJ haf
      try unfold pt
      go_simp
      go_at_call 13
      refine (PT.out _).mono ?_
      rintro e w' ⟨rfl, rfl⟩
      have hJ := HJ.out
      exact hK _ _ ⟨_, _, _, _, _, _, _, _, _, _, _, _, _, _, ⟨fun x => hJ.f0 (upneR (by decide) x), fun x => hJ.f1 (upneR (by decide) x), fun x => hJ.f2 (upneR (by decide) x), fun x => hJ.f3 (upneR (by decide) x), fun x => hJ.f4 (upneR (by decide) x), fun x => hJ.f5 (upneR (by decide) x), fun x => hJ.f6 (upneR (by decide) x), fun x => hJ.f7 (upneR (by decide) x), fun x => hJ.f8 (upneR (by decide) x), fun _ => rfl, fun x => hJ.f10 (upneR (by decide) x), fun x => hJ.f11 (upneR (by decide) x), fun x => hJ.f12 (upneR (by decide) x), fun x => hJ.f13 (upneR (by decide) x), fun x => hJ.f14 (upneR (by decide) x), fun x => hJ.f15 (upneR (by decide) x), (by rw [upeqR (by decide), upeqR (by decide)]; exact hJ.w)⟩, rfl⟩
    · have ho' := Option.some.inj ho
      subst ho'
      simp [Region.binds] at haf
      have p6 : listed.getD 6 true = true := waitsR (by simp [haf])
      have p9 : listed.getD 9 true = true := waitsR (by simp [haf])
      obtain ⟨s6, rfl, hE6⟩ := hJ.f6 p6
      obtain rfl := hJ.f9 p9
      have hq2 : (q2 : Int) < 2 := by omega
      have HJ := Lib.hid hJ
      clear hJ haf
      try unfold pt
      go_simp
      have hJ := HJ.out
      exact hK _ _ ⟨_, _, _, _, _, _, _, _, _, _, _, _, _, _, ⟨fun x => hJ.f0 (upneR (by decide) x), fun x => hJ.f1 (upneR (by decide) x), fun x => hJ.f2 (upneR (by decide) x), fun x => hJ.f3 (upneR (by decide) x), fun x => hJ.f4 (upneR (by decide) x), fun x => hJ.f5 (upneR (by decide) x), fun x => hJ.f6 (upneR (by decide) x), fun x => hJ.f7 (upneR (by decide) x), fun x => hJ.f8 (upneR (by decide) x), fun x => hJ.f9 (upneR (by decide) x), fun _ => ⟨s6, rfl, hE6⟩, fun x => hJ.f11 (upneR (by decide) x), fun x => hJ.f12 (upneR (by decide) x), fun x => hJ.f13 (upneR (by decide) x), fun x => hJ.f14 (upneR (by decide) x), fun x => hJ.f15 (upneR (by decide) x), (by rw [upeqR (by decide), upeqR (by decide)]; exact hJ.w)⟩, rfl⟩
    · have ho' := Option.some.inj ho
      subst ho'
      simp [Region.binds] at haf
      have p10 : listed.getD 10 true = true := waitsR (by simp [haf])
      obtain ⟨s10, rfl, hE10⟩ := hJ.f10 p10
      have e1 : W.cell? ⟨s10, q2, none⟩ = some (.int .i64 (q : Int)) := by
        rw [hE10.2.cell]
        rcases hqq with ⟨rfl, rfl⟩ | ⟨rfl, rfl⟩ <;> rfl
      have HJ := Lib.hid hJ
      clear hJ haf
      try unfold pt
      go_simp
      have hJ := HJ.out
      exact hK _ _ ⟨_, _, _, _, _, _, _, _, _, _, _, _, _, _, ⟨fun x => hJ.f0 (upneR (by decide) x), fun x => hJ.f1 (upneR (by decide) x), fun x => hJ.f2 (upneR (by decide) x), fun x => hJ.f3 (upneR (by decide) x), fun x => hJ.f4 (upneR (by decide) x), fun x => hJ.f5 (upneR (by decide) x), fun x => hJ.f6 (upneR (by decide) x), fun x => hJ.f7 (upneR (by decide) x), fun x => hJ.f8 (upneR (by decide) x), fun x => hJ.f9 (upneR (by decide) x), fun x => hJ.f10 (upneR (by decide) x), fun _ => rfl, fun x => hJ.f12 (upneR (by decide) x), fun x => hJ.f13 (upneR (by decide) x), fun x => hJ.f14 (upneR (by decide) x), fun x => hJ.f15 (upneR (by decide) x), (by rw [upeqR (by decide), upeqR (by decide)]; exact hJ.w)⟩, rfl⟩
    · have ho' := Option.some.inj ho
      subst ho'
      have HJ := Lib.hid hJ
      clear hJ haf
      try unfold pt
      go_simp
      have hJ := HJ.out
      exact hK _ _ ⟨_, _, _, _, _, _, _, _, _, _, _, _, _, _, ⟨fun x => hJ.f0 (upneR (by decide) x), fun x => hJ.f1 (upneR (by decide) x), fun x => hJ.f2 (upneR (by decide) x), fun x => hJ.f3 (upneR (by decide) x), fun x => hJ.f4 (upneR (by decide) x), fun x => hJ.f5 (upneR (by decide) x), fun x => hJ.f6 (upneR (by decide) x), fun x => hJ.f7 (upneR (by decide) x), fun x => hJ.f8 (upneR (by decide) x), fun x => hJ.f9 (upneR (by decide) x), fun x => hJ.f10 (upneR (by decide) x), fun x => hJ.f11 (upneR (by decide) x), fun _ => rfl, fun x => hJ.f13 (upneR (by decide) x), fun x => hJ.f14 (upneR (by decide) x), fun x => hJ.f15 (upneR (by decide) x), (by rw [upeqR (by decide), upeqR (by decide)]; exact hJ.w)⟩, rfl⟩
    · have ho' := Option.some.inj ho
      subst ho'
      simp [Region.binds] at haf
      have p12 : listed.getD 12 true = true := waitsR (by simp [haf])
      obtain rfl := hJ.f12 p12
      have hw' := hJ.w
      rw [hl] at hw'
      have hgl := hw'.blk.lt
      have fz := hw'.blk.frozen 2
      have m2 : W.cell? ⟨g, 2, none⟩ = some (.int .i64 (pb : Int)) := hw'.blk.cell 2
      have HL := Lib.hid hw'.set2
      clear hw'
      have HJ := Lib.hid hJ
      clear hJ haf
      try unfold pt
      go_simp
      have hJ := HJ.out
      have L := HL.out
      exact hK _ _ ⟨_, _, _, _, _, _, _, _, _, _, _, _, _, _, ⟨fun x => hJ.f0 (upneR (by decide) x), fun x => hJ.f1 (upneR (by decide) x), fun x => hJ.f2 (upneR (by decide) x), fun x => hJ.f3 (upneR (by decide) x), fun x => hJ.f4 (upneR (by decide) x), fun x => hJ.f5 (upneR (by decide) x), fun x => by obtain ⟨s, e1, e2⟩ := hJ.f6 (upneR (by decide) x); exact ⟨s, e1, ⟨e2.1, e2.2.far (p := ⟨g, 2, none⟩) (by have := e2.1; show s ≠ g; omega) _⟩⟩, fun x => hJ.f7 (upneR (by decide) x), fun x => hJ.f8 (upneR (by decide) x), fun x => hJ.f9 (upneR (by decide) x), fun x => by obtain ⟨s, e1, e2⟩ := hJ.f10 (upneR (by decide) x); exact ⟨s, e1, ⟨e2.1, e2.2.far (p := ⟨g, 2, none⟩) (by have := e2.1; show s ≠ g; omega) _⟩⟩, fun x => hJ.f11 (upneR (by decide) x), fun x => hJ.f12 (upneR (by decide) x), fun _ => trivial, fun x => hJ.f14 (upneR (by decide) x), fun x => hJ.f15 (upneR (by decide) x), (by rw [upselfR, upeqR (by decide)]; exact L)⟩, rfl⟩
    · have ho' := Option.some.inj ho
      subst ho'
      have HJ := Lib.hid hJ
      clear hJ haf
      try unfold pt
      go_simp
      have hJ := HJ.out
      exact hK _ _ ⟨_, _, _, _, _, _, _, _, _, _, _, _, _, _, ⟨fun x => hJ.f0 (upneR (by decide) x), fun x => hJ.f1 (upneR (by decide) x), fun x => hJ.f2 (upneR (by decide) x), fun x => hJ.f3 (upneR (by decide) x), fun x => hJ.f4 (upneR (by decide) x), fun x => hJ.f5 (upneR (by decide) x), fun x => hJ.f6 (upneR (by decide) x), fun x => hJ.f7 (upneR (by decide) x), fun x => hJ.f8 (upneR (by decide) x), fun x => hJ.f9 (upneR (by decide) x), fun x => hJ.f10 (upneR (by decide) x), fun x => hJ.f11 (upneR (by decide) x), fun x => hJ.f12 (upneR (by decide) x), fun x => hJ.f13 (upneR (by decide) x), fun _ => rfl, fun x => hJ.f15 (upneR (by decide) x), (by rw [upeqR (by decide), upeqR (by decide)]; exact hJ.w)⟩, rfl⟩
    · have ho' := Option.some.inj ho
      subst ho'
      simp [Region.binds] at haf
      have p14 : listed.getD 14 true = true := waitsR (by simp [haf])
      have p11 : listed.getD 11 true = true := waitsR (by simp [haf])
      obtain rfl := hJ.f14 p14
      obtain rfl := hJ.f11 p11
      have hw' := hJ.w
      rw [hl] at hw'
      have hgl := hw'.blk.lt
      have fz := hw'.blk.frozen 3
      have m3 : W.cell? ⟨g, 3, none⟩ = some (.int .i64 (pc : Int)) := hw'.blk.cell 3
      have HL := Lib.hid hw'.set3
      clear hw'
      have HJ := Lib.hid hJ
      clear hJ haf
      try unfold pt
      go_simp
      have hJ := HJ.out
      have L := HL.out
      exact hK _ _ ⟨_, _, _, _, _, _, _, _, _, _, _, _, _, _, ⟨fun x => hJ.f0 (upneR (by decide) x), fun x => hJ.f1 (upneR (by decide) x), fun x => hJ.f2 (upneR (by decide) x), fun x => hJ.f3 (upneR (by decide) x), fun x => hJ.f4 (upneR (by decide) x), fun x => hJ.f5 (upneR (by decide) x), fun x => by obtain ⟨s, e1, e2⟩ := hJ.f6 (upneR (by decide) x); exact ⟨s, e1, ⟨e2.1, e2.2.far (p := ⟨g, 3, none⟩) (by have := e2.1; show s ≠ g; omega) _⟩⟩, fun x => hJ.f7 (upneR (by decide) x), fun x => hJ.f8 (upneR (by decide) x), fun x => hJ.f9 (upneR (by decide) x), fun x => by obtain ⟨s, e1, e2⟩ := hJ.f10 (upneR (by decide) x); exact ⟨s, e1, ⟨e2.1, e2.2.far (p := ⟨g, 3, none⟩) (by have := e2.1; show s ≠ g; omega) _⟩⟩, fun x => hJ.f11 (upneR (by decide) x), fun x => hJ.f12 (upneR (by decide) x), fun x => hJ.f13 (upneR (by decide) x), fun x => hJ.f14 (upneR (by decide) x), fun _ => trivial, (by rw [upselfR, upeqR (by decide)]; exact L)⟩, rfl⟩
  case fin =>
    intro listed a W hall hI
    obtain ⟨y39, y40, y41, y42, y43, y44, y45, y46, y47, y48, y49, y50, y51, y52, hJ, rfl⟩ := hI
    exact HQ.out listed W _ _ _ _ _ _ _ _ _ _ _ _ _ _ hall hJ
noncomputable def code23C : Code := ((Tryd.f25.body.bind (regAt 23)).getD .skip)
set_option maxRecDepth 1000000 in
set_option maxHeartbeats 8000000 in
theorem code23 (w0 W : World) (V : Value) (k g : Nat) (ls : List Ins) (x : Ins) {v0 v1 v2 v4 v5 v7 v8 v9 v10 v11 v12 v13 v14 v15 v16 v17 v18 v19 v20 v21 v22 v23 v24 v25 v26 v27 v28 v29 v30 v31 v32 v33 v34 v35 v36 v37 v38 v39 v40 v41 v42 v43 v44 v45 v46 v47 v48 v49 v50 v51 v52 v53 v54 v55 v56 v57 v58 v59 v60 v61 v62 v63 v64 v65 v66 v67 v68 v69 v70 v71 v72 v73 v74 v75 v76 v77 v78 v79 v80 v81 v82 v83 v84 v85 v86 v87 v88 v89 v90 : Value} (Q : Exit → Act → World → Prop) (hg : Blk W g 65 #[.int .i64 x.op, .int .i64 x.a, .int .i64 x.b, .int .i64 x.c])
    (hV : W.ownsRow w0.heap.size 65 4 V k (insCells ls)) (hk : k ≤ 100) (hB : Below w0.heap.size w0 W)
    (hQ : ∀ (V' : Value) (W' : World) (y83 y84 y85 y86 : Value), W'.ownsRow w0.heap.size 65 4 V' (k + 1) (insCells (ls ++ [x])) → Below w0.heap.size w0 W' → Q .normal ⟨#[v0, v1, v2, V', v4, v5, .pointer (some ⟨g, 0, none⟩), v7, v8, v9, v10, v11, v12, v13, v14, v15, v16, v17, v18, v19, v20, v21, v22, v23, v24, v25, v26, v27, v28, v29, v30, v31, v32, v33, v34, v35, v36, v37, v38, v39, v40, v41, v42, v43, v44, v45, v46, v47, v48, v49, v50, v51, v52, v53, v54, v55, v56, v57, v58, v59, v60, v61, v62, v63, v64, v65, v66, v67, v68, v69, v70, v71, v72, v73, v74, v75, v76, v77, v78, v79, v80, v81, v82, y83, y84, y85, y86, v87, v88, v89, v90], []⟩ W') :
    Code.wp Tryd.prog code23C Q ⟨#[v0, v1, v2, V, v4, v5, .pointer (some ⟨g, 0, none⟩), v7, v8, v9, v10, v11, v12, v13, v14, v15, v16, v17, v18, v19, v20, v21, v22, v23, v24, v25, v26, v27, v28, v29, v30, v31, v32, v33, v34, v35, v36, v37, v38, v39, v40, v41, v42, v43, v44, v45, v46, v47, v48, v49, v50, v51, v52, v53, v54, v55, v56, v57, v58, v59, v60, v61, v62, v63, v64, v65, v66, v67, v68, v69, v70, v71, v72, v73, v74, v75, v76, v77, v78, v79, v80, v81, v82, v83, v84, v85, v86, v87, v88, v89, v90], []⟩ W := by
  obtain ⟨xo, xa, xb, xc⟩ := x
  obtain ⟨i0, hi0, hz0, hz1, hz2⟩ := info_parts info_InstrP
  have hU := Tryd.underlying56
  obtain ⟨m0, m1, m2, m3⟩ : W.cell? ⟨g, 0, none⟩ = some (.int .i64 xo) ∧ W.cell? ⟨g, 1, none⟩ = some (.int .i64 xa) ∧ W.cell? ⟨g, 2, none⟩ = some (.int .i64 xb) ∧ W.cell? ⟨g, 3, none⟩ = some (.int .i64 xc) := ⟨hg.cell 0, hg.cell 1, hg.cell 2, hg.cell 3⟩
  have HQ := Lib.hid hQ
  have HV := Lib.hid hV
  have HB := Lib.hid hB
  clear hQ hg hV hB
  conv => arg 2; whnf
  go_wp2_with (at_builtin; (refine wpList_append_rd _ rfl (.tmp 83) (.tmp 85) _ rfl w0.heap.size 65 i0 _ 4 32 hU hi0 hz0 hz1 hz2 rfl (by omega) V k (insCells ls) rfl ?own (W.heap.size + 1) (some ⟨W.heap.size, 0, none⟩) 1 1 (insCells [⟨xo, xa, xb, xc⟩]) rfl ?rd (ins_one _) (by simp [maxLen]; omega) (by omega) ?bas ?_); (case own => exact HV.out.alloc _); (case rd => exact ((Blk.new' (by simp)).rd 1 4 (by simp)).more (by simp)); (case bas => (have := HB.out.size; simp; omega)); intro v1 w1 hv1 hg1 _)
  refine HQ.out _ _ _ _ _ _ ?_ ?_
  · rw [insCells_appP]; exact hv1
  · exact (HB.out.alloc HB.out.size _).grown hg1 (by have := HB.out.size; simp; omega) (fun q hq => (HV.out.lt q hq).1)
/-- K.Code's instruction, by its picks. -/
def codeV (pk pa pb pc q2 q100 qw q45 : Nat) : Ins :=
  if pk = 0 then ⟨1, (pa : Nat), 0, if q2 = 0 then (q100 : Nat) else (qw : Nat)⟩
  else if pk = 7 ∨ pk = 8 then ⟨1 + (pk : Nat), (pa : Nat), (pb : Nat), 0⟩
  else if pk = 9 ∨ pk = 11 then ⟨1 + (pk : Nat), 0, 0, (q45 : Nat)⟩
  else if pk = 10 then ⟨11, (pa : Nat), 0, (q45 : Nat)⟩
  else if pk = 12 ∨ pk = 14 then ⟨1 + (pk : Nat), 0, 0, 0⟩
  else if pk = 13 then ⟨14, (pa : Nat), 0, 0⟩
  else ⟨1 + (pk : Nat), (pa : Nat), (pb : Nat), (pc : Nat)⟩
theorem codeI_eq (rk ra rb rc : Int) : codeI ⟨rk, ra, rb, rc⟩ = codeV (pick rk 15) (pick ra 8) (pick rb 8) (pick rc 8) (pick rb 2) (pick rc 100) (pick rc 65536) (pick rc 45) := rfl
def codeTo (l : List Ins) (k : Nat) : List Ins := (l.take k).map codeI
theorem codeTo_succ (l : List Ins) (k : Nat) (h : k < l.length) : codeTo l (k + 1) = codeTo l k ++ [codeI l[k]] := by
  unfold codeTo
  rw [List.take_succ_eq_append_getElem h, List.map_append]
  rfl
theorem own_low {w w' : World} {base g : Nat} {e : TypeId} {size n : Nat} {v : Value} {xs : List Value} (h : w.ownsRow base e size v n xs) (hb : Below g w w') (hg : ∀ q, v.ownBlock = some q → q < g) : w'.ownsRow base e size v n xs := by
  refine ⟨h.1, ?_⟩
  rcases h.2 with h2 | ⟨q, cap, cur, hv, hq, hh, r⟩
  · exact .inl h2
  · exact .inr ⟨q, cap, cur, hv, hq, (hb.block q (hg q (by rw [hv]; rfl))).trans hh, r⟩
theorem kc_low (g : Nat) (W : World) : Below g W W.drew := Below.drewN' (Below.refl _ _) 1
/-- Where the loop stands. -/
def KCI (w0 : World) (l : List Ins) (n : Nat) (V i : Value) (wr : World) : Prop :=
  Cnt n i fun k => ∃ V' : Value, V' = V ∧ wr.ownsRow w0.heap.size 65 4 V' k (insCells (codeTo l k)) ∧ Below w0.heap.size w0 wr
set_option maxRecDepth 1000000 in
set_option maxHeartbeats 40000000 in
theorem KCode_any (A : Option Addr) (c : Nat) (l : List Ins) (w : World) (hr : RdI w w.heap.size A l) (hwf : ∀ i ∈ l, i.wf) (hl : l.length ≤ maxLen) :
    Calls Tryd.prog 25 #[.slice A l.length c] w fun e w' => ∃ V, e = .returned V ∧ w'.ownsRow w.heap.size 65 4 V (codeL l).length (insCells (codeL l)) ∧ Below w.heap.size w w' := by
  unfold maxLen at hl
  obtain ⟨n, hn⟩ : ∃ n, n = min l.length 40 := ⟨_, rfl⟩
  have hn1 : n ≤ l.length := by omega
  have hn2 : n ≤ 40 := by omega
  have hn3 : ∀ k, k = n → (k = l.length ∨ k = 40) := by omega
  have HN := Lib.hid hn
  have HN3 := Lib.hid hn3
  clear hn hn3
  have HR := Lib.hid hr
  have HWF := Lib.hid hwf
  clear hr hwf
  go_enter Tryd.func25, Tryd.ntmps25
  go_wp2_with fail
  go_loopw [3, 4] (fun V i wr => KCI w l n V i wr) (fun _ i _ => n - (intOf i).toNat)
  case atStart => exact ⟨0, Nat.zero_le _, rfl, _, rfl, ⟨rfl, .inl ⟨rfl, rfl⟩⟩, Below.refl _ _⟩
  case round =>
    obtain ⟨k, hk', rfl, V, rfl, hV, hB⟩ := hrel
    by_cases hlt : k < n
    · have hkl : k < l.length := by omega
      obtain ⟨b, o, rfl, hb, hcell⟩ := HR.out (by omega)
      obtain ⟨c0, c1, c2, c3⟩ := hcell k hkl
      have hki : (k : Int) < 40 := by omega
      have hkl2 : (k : Int) < (l.length : Int) := by omega
      have hin := HWF.out _ (List.getElem_mem hkl)
      obtain ⟨r, hrr⟩ : ∃ r, r = l[k] := ⟨_, rfl⟩
      rw [← hrr] at c0 c1 c2 c3 hin
      obtain ⟨rk, ra, rb, rc⟩ := r
      simp only at c0 c1 c2 c3
      have c0 := (hB.cell (p := ⟨b, o + k * 4, none⟩) hb).trans c0
      have c1 := (hB.cell (p := ⟨b, o + k * 4 + 1, none⟩) hb).trans c1
      have c2 := (hB.cell (p := ⟨b, o + k * 4 + 2, none⟩) hb).trans c2
      have c3 := (hB.cell (p := ⟨b, o + k * 4 + 3, none⟩) hb).trans c3
      have hbw : b < wr.heap.size := Nat.lt_of_lt_of_le hb hB.size
      have HS : Hid (codeTo l (k + 1) = codeTo l k ++ [codeV (pick rk 15) (pick ra 8) (pick rb 8) (pick rc 8) (pick rb 2) (pick rc 100) (pick rc 65536) (pick rc 45)]) := by
        show _ = _
        rw [codeTo_succ l k hkl, ← hrr, codeI_eq]
      clear hrr hcell
      obtain ⟨⟨wk1, wk2⟩, ⟨wa1, wa2⟩, ⟨wb1, wb2⟩, ⟨wc1, wc2⟩⟩ := hin
      have lk := pick_lt rk (m := 15) (by omega)
      have l2 := pick_lt rb (m := 2) (by omega)
      have PK : Hid (∀ W : World, Calls Tryd.prog 13 #[.int .i64 rk, .int .i64 15] W fun e w' => e = .returned (.int .i64 (pick rk 15 : Nat)) ∧ W = w') := fun W => picked_any rk 15 W wk1 wk2 (by omega) (by omega)
      have PA : Hid (∀ W : World, Calls Tryd.prog 13 #[.int .i64 ra, .int .i64 8] W fun e w' => e = .returned (.int .i64 (pick ra 8 : Nat)) ∧ W = w') := fun W => picked_any ra 8 W wa1 wa2 (by omega) (by omega)
      have PB : Hid (∀ W : World, Calls Tryd.prog 13 #[.int .i64 rb, .int .i64 8] W fun e w' => e = .returned (.int .i64 (pick rb 8 : Nat)) ∧ W = w') := fun W => picked_any rb 8 W wb1 wb2 (by omega) (by omega)
      have PC : Hid (∀ W : World, Calls Tryd.prog 13 #[.int .i64 rc, .int .i64 8] W fun e w' => e = .returned (.int .i64 (pick rc 8 : Nat)) ∧ W = w') := fun W => picked_any rc 8 W wc1 wc2 (by omega) (by omega)
      have PT : Hid (∀ W : World, Calls Tryd.prog 13 #[.int .i64 rb, .int .i64 2] W fun e w' => e = .returned (.int .i64 (pick rb 2 : Nat)) ∧ W = w') := fun W => picked_any rb 2 W wb1 wb2 (by omega) (by omega)
      have PH : Hid (∀ W : World, Calls Tryd.prog 13 #[.int .i64 rc, .int .i64 100] W fun e w' => e = .returned (.int .i64 (pick rc 100 : Nat)) ∧ W = w') := fun W => picked_any rc 100 W wc1 wc2 (by omega) (by omega)
      have PW : Hid (∀ W : World, Calls Tryd.prog 13 #[.int .i64 rc, .int .i64 65536] W fun e w' => e = .returned (.int .i64 (pick rc 65536 : Nat)) ∧ W = w') := fun W => picked_any rc 65536 W wc1 wc2 (by omega) (by omega)
      have PF : Hid (∀ W : World, Calls Tryd.prog 13 #[.int .i64 rc, .int .i64 45] W fun e w' => e = .returned (.int .i64 (pick rc 45 : Nat)) ∧ W = w') := fun W => picked_any rc 45 W wc1 wc2 (by omega) (by omega)
      generalize pick rk 15 = pk at *
      generalize pick ra 8 = pa at *
      generalize pick rb 8 = pb at *
      generalize pick rc 8 = pc at *
      generalize pick rb 2 = q2 at *
      generalize pick rc 100 = q100 at *
      generalize pick rc 65536 = qw at *
      generalize pick rc 45 = q45 at *
      clear wk1 wk2 wa1 wa2 wb1 wb2 wc1 wc2
      have hX := Blk.new wr 23 #[.int .i64 rk, .int .i64 ra, .int .i64 rb, .int .i64 rc]
      have HBX := Lib.hid (hB.alloc hB.size (.cells #[.int .i64 rk, .int .i64 ra, .int .i64 rb, .int .i64 rc] 23))
      have HVX := Lib.hid (hV.alloc (.cells #[.int .i64 rk, .int .i64 ra, .int .i64 rb, .int .i64 rc] 23))
      clear hV hB
      go_upto_region 6 with fail
      generalize wr.alloc (.cells #[.int .i64 rk, .int .i64 ra, .int .i64 rb, .int .i64 rc] 23) = W1 at *
      refine codeReg W1 wr.heap.size rk ra rb rc pk pa pb pc W1 _ (kc_below_drew _) hX.lt (hX.cell 0) (hX.cell 1) (hX.cell 2) (hX.cell 3) lk PK PA PB PC ?_
      intro listed W y6 y21 y22 y23 y24 y25 y26 y27 y28 y29 y30 y31 y32 y33 y34 hall hJ
      obtain ⟨g, rfl, hge, hbl⟩ := hJ.f15 (hall 15 (by decide))
      have hw := hJ.w
      clear hJ c0 c1 c2 c3
      have hXW := hX.below hw hX.lt
      have HBW := Lib.hid (HBX.out.trans (hw.mono HBX.out.size))
      have HVW := Lib.hid (own_below HVX.out hw)
      have hg5 : wr.heap.size < g := Nat.lt_of_lt_of_le hX.lt hge
      have x2 : W.cell? ⟨wr.heap.size, 2, none⟩ = some (.int .i64 rb) := hXW.cell 2
      have x3 : W.cell? ⟨wr.heap.size, 3, none⟩ = some (.int .i64 rc) := hXW.cell 3
      have xl := hXW.lt
      obtain ⟨m0, m1, m2, m3⟩ : W.cell? ⟨g, 0, none⟩ = some (.int .i64 (1 + (pk : Int))) ∧ W.cell? ⟨g, 1, none⟩ = some (.int .i64 (pa : Int)) ∧ W.cell? ⟨g, 2, none⟩ = some (.int .i64 (pb : Int)) ∧ W.cell? ⟨g, 3, none⟩ = some (.int .i64 (pc : Int)) := ⟨hbl.cell 0, hbl.cell 1, hbl.cell 2, hbl.cell 3⟩
      have f0 := hbl.frozen 0
      have f1 := hbl.frozen 1
      have f2 := hbl.frozen 2
      have f3 := hbl.frozen 3
      have gl := hbl.lt
      have hgne : ¬ wr.heap.size = g := by omega
      have hgne' : ¬ g = wr.heap.size := by omega
      have HBL := Lib.hid hbl
      have HGB := Lib.hid (show w.heap.size ≤ g by have := HBX.out.size; omega)
      have HVG : Hid (some g ≠ V.ownBlock) := fun e => by have := (HVX.out.lt g e.symm).2; omega
      have HLo : Hid (∀ q, V.ownBlock = some q → q < g) := fun q hq => by have := (HVX.out.lt q hq).2; omega
      clear hw hbl hX hXW PK PA PB PC HBX HVX hge
      have h14 : pk = 0 ∨ pk = 1 ∨ pk = 2 ∨ pk = 3 ∨ pk = 4 ∨ pk = 5 ∨ pk = 6 ∨ pk = 7 ∨ pk = 8 ∨ pk = 9 ∨ pk = 10 ∨ pk = 11 ∨ pk = 12 ∨ pk = 13 ∨ pk = 14 := by omega
      rcases h14 with rfl | rfl | rfl | rfl | rfl | rfl | rfl | rfl | rfl | rfl | rfl | rfl | rfl | rfl | rfl
      · simp at m0
        have HB1 : LiW W g pa pb pc (if q2 = 0 then q100 else qw) false false W.drew := ⟨kc_low g W, HBL.out.drew⟩
        go_upto_region 9 with fail
        refine codeReg9 W wr.heap.size g rb rc pa pb pc q100 qw q2 (if q2 = 0 then q100 else qw) W _ hg5 x2 x3 l2 (by rcases (show q2 = 0 ∨ q2 = 1 by omega) with rfl | rfl; exact .inl ⟨rfl, rfl⟩; exact .inr ⟨rfl, rfl⟩) HB1 PH PW PT ?_
        intro listed W9 y39 y40 y41 y42 y43 y44 y45 y46 y47 y48 y49 y50 y51 y52 hall hJ
        have hw := hJ.w
        rw [hall 13 (by decide), hall 15 (by decide)] at hw
        have HL9 := Lib.hid hw.low
        have hbl9 := hw.blk
        have HB9 := Lib.hid (show Blk W9 g 65 #[.int .i64 1, .int .i64 (pa : Int), .int .i64 0, .int .i64 ((if q2 = 0 then q100 else qw : Nat) : Int)] from hbl9)
        clear hJ hw hbl9 x2 x3 xl m0 m1 m2 m3 f0 f1 f2 f3 gl
        go_upto_region 23 with fail
        refine code23 w W9 V k g (codeTo l k) ⟨1, (pa : Int), 0, ((if q2 = 0 then q100 else qw : Nat) : Int)⟩ _ HB9.out (own_low HVW.out HL9.out HLo.out) (by omega) (HBW.out.trans (HL9.out.mono HGB.out)) ?_
        intro V' W' y83 y84 y85 y86 hV' hB'
        have HV' := Lib.hid hV'
        have HB' := Lib.hid hB'
        clear hV' hB'
        go_wp2
        exact ⟨⟨k + 1, hlt, by go_num, _, rfl, by rw [HS.out, show codeV 0 pa pb pc q2 q100 qw q45 = ⟨1, (pa : Int), 0, ((if q2 = 0 then q100 else qw : Nat) : Int)⟩ from by unfold codeV; rw [if_pos rfl]; by_cases h : q2 = 0 <;> simp [h]]; exact HV'.out, HB'.out⟩, by simp [intOf]; omega⟩
      · simp at m0
        go_upto_region 23 with fail
        have HL9 := Lib.hid (Below.refl g W)
        refine code23 w W V k g (codeTo l k) ⟨2, (pa : Int), (pb : Int), (pc : Int)⟩ _ HBL.out (own_low HVW.out HL9.out HLo.out) (by omega) (HBW.out.trans (HL9.out.mono HGB.out)) ?_
        intro V' W' y83 y84 y85 y86 hV' hB'
        have HV' := Lib.hid hV'
        have HB' := Lib.hid hB'
        clear hV' hB'
        go_wp2
        exact ⟨⟨k + 1, hlt, by go_num, _, rfl, by rw [HS.out, show codeV 1 pa pb pc q2 q100 qw q45 = ⟨2, (pa : Int), (pb : Int), (pc : Int)⟩ from rfl]; exact HV'.out, HB'.out⟩, by simp [intOf]; omega⟩
      · simp at m0
        go_upto_region 23 with fail
        have HL9 := Lib.hid (Below.refl g W)
        refine code23 w W V k g (codeTo l k) ⟨3, (pa : Int), (pb : Int), (pc : Int)⟩ _ HBL.out (own_low HVW.out HL9.out HLo.out) (by omega) (HBW.out.trans (HL9.out.mono HGB.out)) ?_
        intro V' W' y83 y84 y85 y86 hV' hB'
        have HV' := Lib.hid hV'
        have HB' := Lib.hid hB'
        clear hV' hB'
        go_wp2
        exact ⟨⟨k + 1, hlt, by go_num, _, rfl, by rw [HS.out, show codeV 2 pa pb pc q2 q100 qw q45 = ⟨3, (pa : Int), (pb : Int), (pc : Int)⟩ from rfl]; exact HV'.out, HB'.out⟩, by simp [intOf]; omega⟩
      · simp at m0
        go_upto_region 23 with fail
        have HL9 := Lib.hid (Below.refl g W)
        refine code23 w W V k g (codeTo l k) ⟨4, (pa : Int), (pb : Int), (pc : Int)⟩ _ HBL.out (own_low HVW.out HL9.out HLo.out) (by omega) (HBW.out.trans (HL9.out.mono HGB.out)) ?_
        intro V' W' y83 y84 y85 y86 hV' hB'
        have HV' := Lib.hid hV'
        have HB' := Lib.hid hB'
        clear hV' hB'
        go_wp2
        exact ⟨⟨k + 1, hlt, by go_num, _, rfl, by rw [HS.out, show codeV 3 pa pb pc q2 q100 qw q45 = ⟨4, (pa : Int), (pb : Int), (pc : Int)⟩ from rfl]; exact HV'.out, HB'.out⟩, by simp [intOf]; omega⟩
      · simp at m0
        go_upto_region 23 with fail
        have HL9 := Lib.hid (Below.refl g W)
        refine code23 w W V k g (codeTo l k) ⟨5, (pa : Int), (pb : Int), (pc : Int)⟩ _ HBL.out (own_low HVW.out HL9.out HLo.out) (by omega) (HBW.out.trans (HL9.out.mono HGB.out)) ?_
        intro V' W' y83 y84 y85 y86 hV' hB'
        have HV' := Lib.hid hV'
        have HB' := Lib.hid hB'
        clear hV' hB'
        go_wp2
        exact ⟨⟨k + 1, hlt, by go_num, _, rfl, by rw [HS.out, show codeV 4 pa pb pc q2 q100 qw q45 = ⟨5, (pa : Int), (pb : Int), (pc : Int)⟩ from rfl]; exact HV'.out, HB'.out⟩, by simp [intOf]; omega⟩
      · simp at m0
        go_upto_region 23 with fail
        have HL9 := Lib.hid (Below.refl g W)
        refine code23 w W V k g (codeTo l k) ⟨6, (pa : Int), (pb : Int), (pc : Int)⟩ _ HBL.out (own_low HVW.out HL9.out HLo.out) (by omega) (HBW.out.trans (HL9.out.mono HGB.out)) ?_
        intro V' W' y83 y84 y85 y86 hV' hB'
        have HV' := Lib.hid hV'
        have HB' := Lib.hid hB'
        clear hV' hB'
        go_wp2
        exact ⟨⟨k + 1, hlt, by go_num, _, rfl, by rw [HS.out, show codeV 5 pa pb pc q2 q100 qw q45 = ⟨6, (pa : Int), (pb : Int), (pc : Int)⟩ from rfl]; exact HV'.out, HB'.out⟩, by simp [intOf]; omega⟩
      · simp at m0
        go_upto_region 23 with fail
        have HL9 := Lib.hid (Below.refl g W)
        refine code23 w W V k g (codeTo l k) ⟨7, (pa : Int), (pb : Int), (pc : Int)⟩ _ HBL.out (own_low HVW.out HL9.out HLo.out) (by omega) (HBW.out.trans (HL9.out.mono HGB.out)) ?_
        intro V' W' y83 y84 y85 y86 hV' hB'
        have HV' := Lib.hid hV'
        have HB' := Lib.hid hB'
        clear hV' hB'
        go_wp2
        exact ⟨⟨k + 1, hlt, by go_num, _, rfl, by rw [HS.out, show codeV 6 pa pb pc q2 q100 qw q45 = ⟨7, (pa : Int), (pb : Int), (pc : Int)⟩ from rfl]; exact HV'.out, HB'.out⟩, by simp [intOf]; omega⟩
      · simp at m0
        go_upto_region 23 with fail
        have HL9 := Lib.hid ((Below.refl g W).setCell (p := ⟨g, 3, none⟩) (Nat.le_refl g) (.int .i64 0))
        refine code23 w (W.setCell ⟨g, 3, none⟩ (.int .i64 0)) V k g (codeTo l k) ⟨8, (pa : Int), (pb : Int), 0⟩ _ (HBL.out.set_ 3 (.int .i64 0)) (own_low HVW.out HL9.out HLo.out) (by omega) (HBW.out.trans (HL9.out.mono HGB.out)) ?_
        intro V' W' y83 y84 y85 y86 hV' hB'
        have HV' := Lib.hid hV'
        have HB' := Lib.hid hB'
        clear hV' hB'
        go_wp2
        exact ⟨⟨k + 1, hlt, by go_num, _, rfl, by rw [HS.out, show codeV 7 pa pb pc q2 q100 qw q45 = ⟨8, (pa : Int), (pb : Int), 0⟩ from rfl]; exact HV'.out, HB'.out⟩, by simp [intOf]; omega⟩
      · simp at m0
        go_upto_region 23 with fail
        have HL9 := Lib.hid ((Below.refl g W).setCell (p := ⟨g, 3, none⟩) (Nat.le_refl g) (.int .i64 0))
        refine code23 w (W.setCell ⟨g, 3, none⟩ (.int .i64 0)) V k g (codeTo l k) ⟨9, (pa : Int), (pb : Int), 0⟩ _ (HBL.out.set_ 3 (.int .i64 0)) (own_low HVW.out HL9.out HLo.out) (by omega) (HBW.out.trans (HL9.out.mono HGB.out)) ?_
        intro V' W' y83 y84 y85 y86 hV' hB'
        have HV' := Lib.hid hV'
        have HB' := Lib.hid hB'
        clear hV' hB'
        go_wp2
        exact ⟨⟨k + 1, hlt, by go_num, _, rfl, by rw [HS.out, show codeV 8 pa pb pc q2 q100 qw q45 = ⟨9, (pa : Int), (pb : Int), 0⟩ from rfl]; exact HV'.out, HB'.out⟩, by simp [intOf]; omega⟩
      · simp at m0
        go_upto_region 23 with (go_at_call 13; (with_reducible refine (PF.out _).mono ?_); rintro e w' ⟨rfl, rfl⟩)
        have HL9 := Lib.hid ((((Below.refl g W).setCell (p := ⟨g, 1, none⟩) (Nat.le_refl g) (.int .i64 0)).setCell (p := ⟨g, 2, none⟩) (Nat.le_refl g) (.int .i64 0)).setCell (p := ⟨g, 3, none⟩) (Nat.le_refl g) (.int .i64 (q45 : Int)))
        refine code23 w (((W.setCell ⟨g, 1, none⟩ (.int .i64 0)).setCell ⟨g, 2, none⟩ (.int .i64 0)).setCell ⟨g, 3, none⟩ (.int .i64 (q45 : Int))) V k g (codeTo l k) ⟨10, 0, 0, (q45 : Int)⟩ _ (((HBL.out.set_ 1 (.int .i64 0)).set_ 2 (.int .i64 0)).set_ 3 (.int .i64 (q45 : Int))) (own_low HVW.out HL9.out HLo.out) (by omega) (HBW.out.trans (HL9.out.mono HGB.out)) ?_
        intro V' W' y83 y84 y85 y86 hV' hB'
        have HV' := Lib.hid hV'
        have HB' := Lib.hid hB'
        clear hV' hB'
        go_wp2
        exact ⟨⟨k + 1, hlt, by go_num, _, rfl, by rw [HS.out, show codeV 9 pa pb pc q2 q100 qw q45 = ⟨10, 0, 0, (q45 : Int)⟩ from rfl]; exact HV'.out, HB'.out⟩, by simp [intOf]; omega⟩
      · simp at m0
        go_upto_region 23 with (go_at_call 13; (with_reducible refine (PF.out _).mono ?_); rintro e w' ⟨rfl, rfl⟩)
        have HL9 := Lib.hid (((Below.refl g W).setCell (p := ⟨g, 2, none⟩) (Nat.le_refl g) (.int .i64 0)).setCell (p := ⟨g, 3, none⟩) (Nat.le_refl g) (.int .i64 (q45 : Int)))
        refine code23 w ((W.setCell ⟨g, 2, none⟩ (.int .i64 0)).setCell ⟨g, 3, none⟩ (.int .i64 (q45 : Int))) V k g (codeTo l k) ⟨11, (pa : Int), 0, (q45 : Int)⟩ _ ((HBL.out.set_ 2 (.int .i64 0)).set_ 3 (.int .i64 (q45 : Int))) (own_low HVW.out HL9.out HLo.out) (by omega) (HBW.out.trans (HL9.out.mono HGB.out)) ?_
        intro V' W' y83 y84 y85 y86 hV' hB'
        have HV' := Lib.hid hV'
        have HB' := Lib.hid hB'
        clear hV' hB'
        go_wp2
        exact ⟨⟨k + 1, hlt, by go_num, _, rfl, by rw [HS.out, show codeV 10 pa pb pc q2 q100 qw q45 = ⟨11, (pa : Int), 0, (q45 : Int)⟩ from rfl]; exact HV'.out, HB'.out⟩, by simp [intOf]; omega⟩
      · simp at m0
        go_upto_region 23 with (go_at_call 13; (with_reducible refine (PF.out _).mono ?_); rintro e w' ⟨rfl, rfl⟩)
        have HL9 := Lib.hid ((((Below.refl g W).setCell (p := ⟨g, 1, none⟩) (Nat.le_refl g) (.int .i64 0)).setCell (p := ⟨g, 2, none⟩) (Nat.le_refl g) (.int .i64 0)).setCell (p := ⟨g, 3, none⟩) (Nat.le_refl g) (.int .i64 (q45 : Int)))
        refine code23 w (((W.setCell ⟨g, 1, none⟩ (.int .i64 0)).setCell ⟨g, 2, none⟩ (.int .i64 0)).setCell ⟨g, 3, none⟩ (.int .i64 (q45 : Int))) V k g (codeTo l k) ⟨12, 0, 0, (q45 : Int)⟩ _ (((HBL.out.set_ 1 (.int .i64 0)).set_ 2 (.int .i64 0)).set_ 3 (.int .i64 (q45 : Int))) (own_low HVW.out HL9.out HLo.out) (by omega) (HBW.out.trans (HL9.out.mono HGB.out)) ?_
        intro V' W' y83 y84 y85 y86 hV' hB'
        have HV' := Lib.hid hV'
        have HB' := Lib.hid hB'
        clear hV' hB'
        go_wp2
        exact ⟨⟨k + 1, hlt, by go_num, _, rfl, by rw [HS.out, show codeV 11 pa pb pc q2 q100 qw q45 = ⟨12, 0, 0, (q45 : Int)⟩ from rfl]; exact HV'.out, HB'.out⟩, by simp [intOf]; omega⟩
      · simp at m0
        go_upto_region 23 with fail
        have HL9 := Lib.hid (((((Below.refl g W).setCell (p := ⟨g, 0, none⟩) (Nat.le_refl g) (.int .i64 13)).setCell (p := ⟨g, 1, none⟩) (Nat.le_refl g) (.int .i64 0)).setCell (p := ⟨g, 2, none⟩) (Nat.le_refl g) (.int .i64 0)).setCell (p := ⟨g, 3, none⟩) (Nat.le_refl g) (.int .i64 0))
        refine code23 w ((((W.setCell ⟨g, 0, none⟩ (.int .i64 13)).setCell ⟨g, 1, none⟩ (.int .i64 0)).setCell ⟨g, 2, none⟩ (.int .i64 0)).setCell ⟨g, 3, none⟩ (.int .i64 0)) V k g (codeTo l k) ⟨13, 0, 0, 0⟩ _ ((((HBL.out.set_ 0 (.int .i64 13)).set_ 1 (.int .i64 0)).set_ 2 (.int .i64 0)).set_ 3 (.int .i64 0)) (own_low HVW.out HL9.out HLo.out) (by omega) (HBW.out.trans (HL9.out.mono HGB.out)) ?_
        intro V' W' y83 y84 y85 y86 hV' hB'
        have HV' := Lib.hid hV'
        have HB' := Lib.hid hB'
        clear hV' hB'
        go_wp2
        exact ⟨⟨k + 1, hlt, by go_num, _, rfl, by rw [HS.out, show codeV 12 pa pb pc q2 q100 qw q45 = ⟨13, 0, 0, 0⟩ from rfl]; exact HV'.out, HB'.out⟩, by simp [intOf]; omega⟩
      · simp at m0
        go_upto_region 23 with fail
        have HL9 := Lib.hid (((Below.refl g W).setCell (p := ⟨g, 2, none⟩) (Nat.le_refl g) (.int .i64 0)).setCell (p := ⟨g, 3, none⟩) (Nat.le_refl g) (.int .i64 0))
        refine code23 w ((W.setCell ⟨g, 2, none⟩ (.int .i64 0)).setCell ⟨g, 3, none⟩ (.int .i64 0)) V k g (codeTo l k) ⟨14, (pa : Int), 0, 0⟩ _ ((HBL.out.set_ 2 (.int .i64 0)).set_ 3 (.int .i64 0)) (own_low HVW.out HL9.out HLo.out) (by omega) (HBW.out.trans (HL9.out.mono HGB.out)) ?_
        intro V' W' y83 y84 y85 y86 hV' hB'
        have HV' := Lib.hid hV'
        have HB' := Lib.hid hB'
        clear hV' hB'
        go_wp2
        exact ⟨⟨k + 1, hlt, by go_num, _, rfl, by rw [HS.out, show codeV 13 pa pb pc q2 q100 qw q45 = ⟨14, (pa : Int), 0, 0⟩ from rfl]; exact HV'.out, HB'.out⟩, by simp [intOf]; omega⟩
      · simp at m0
        go_upto_region 23 with fail
        have HL9 := Lib.hid (((((Below.refl g W).setCell (p := ⟨g, 0, none⟩) (Nat.le_refl g) (.int .i64 15)).setCell (p := ⟨g, 1, none⟩) (Nat.le_refl g) (.int .i64 0)).setCell (p := ⟨g, 2, none⟩) (Nat.le_refl g) (.int .i64 0)).setCell (p := ⟨g, 3, none⟩) (Nat.le_refl g) (.int .i64 0))
        refine code23 w ((((W.setCell ⟨g, 0, none⟩ (.int .i64 15)).setCell ⟨g, 1, none⟩ (.int .i64 0)).setCell ⟨g, 2, none⟩ (.int .i64 0)).setCell ⟨g, 3, none⟩ (.int .i64 0)) V k g (codeTo l k) ⟨15, 0, 0, 0⟩ _ ((((HBL.out.set_ 0 (.int .i64 15)).set_ 1 (.int .i64 0)).set_ 2 (.int .i64 0)).set_ 3 (.int .i64 0)) (own_low HVW.out HL9.out HLo.out) (by omega) (HBW.out.trans (HL9.out.mono HGB.out)) ?_
        intro V' W' y83 y84 y85 y86 hV' hB'
        have HV' := Lib.hid hV'
        have HB' := Lib.hid hB'
        clear hV' hB'
        go_wp2
        exact ⟨⟨k + 1, hlt, by go_num, _, rfl, by rw [HS.out, show codeV 14 pa pb pc q2 q100 qw q45 = ⟨15, 0, 0, 0⟩ from rfl]; exact HV'.out, HB'.out⟩, by simp [intOf]; omega⟩
    · obtain rfl : k = n := by omega
      have HC : Hid (codeTo l k ++ [⟨15, 0, 0, 0⟩] = codeL l) := by
        show _ = _
        have h := HN.out
        unfold codeTo codeL
        congr 2
        rcases Nat.le_total l.length 40 with h1 | h1
        · rw [List.take_of_length_le (by omega), List.take_of_length_le h1]
        · rw [show k = 40 by omega]
      have HCL : Hid ((codeL l).length = k + 1) := by
        show _ = _
        rw [← HC.out]
        simp [codeTo]
        omega
      obtain ⟨i0, hi0, hz0, hz1, hz2⟩ := info_parts info_InstrP
      have hU := Tryd.underlying56
      have HV := Lib.hid hV
      have HB := Lib.hid hB
      clear hV hB
      have hend := HN3.out k rfl
      have hk2 : k ≤ 40 := hn2
      clear hlt
      have key : ((k : Int) < (l.length : Int) ∧ ¬ ((k : Int) < 40)) ∨ ¬ ((k : Int) < (l.length : Int)) := by omega
      clear hend hn2 hk' hn1
      rcases key with ⟨e1, e2⟩ | e1
      all_goals
        go_wp2_with (at_builtin; (refine wpList_append_rd _ rfl (.tmp 87) (.tmp 89) _ rfl w.heap.size 65 i0 _ 4 32 hU hi0 hz0 hz1 hz2 rfl (by omega) V k (insCells (codeTo l k)) rfl ?own (wr.heap.size + 1) (some ⟨wr.heap.size, 0, none⟩) 1 1 (insCells [⟨15, 0, 0, 0⟩]) rfl ?rd (ins_one _) (by simp [maxLen]; omega) (by omega) ?bas ?_); (case own => exact HV.out.alloc _); (case rd => exact ((Blk.new' (by simp)).rd 1 4 (by simp)).more (by simp)); (case bas => (have := HB.out.size; simp; omega)); intro v1 w1 hv1 hg1 _)
        go_ret
        refine ⟨v1, rfl, ?_, (HB.out.alloc HB.out.size _).grown hg1 (by have := HB.out.size; simp; omega) (fun q hq => (HV.out.lt q hq).1)⟩
        rw [HCL.out, ← HC.out, insCells_appP]
        exact hv1
end Go.Proofs.YtdjamdbamkhblacDoor
