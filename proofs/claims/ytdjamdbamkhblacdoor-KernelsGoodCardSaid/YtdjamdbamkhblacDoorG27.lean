/- The drawn region of keep.Acts. No condition. By an AI agent (xacts.py). Two kernels that differ in the first region's words at most remain so, whatever is done to both: plain mathematics. A script with acts put in that the first module's device answers leaves files, pipes, processes and the other words as without them: plain mathematics. A kernel without modules, its names, and acts that fail: plain mathematics. -/
import Derived.Test.YtdjamdbamkhblacDoorG26
import Derived.Test.YtdjamdbamkhblacDoorG13
import Derived.Test.YtdjamdbamkhblacDoorG24
namespace Go.Proofs.YtdjamdbamkhblacDoor
open Go.RowKit
set_option linter.unusedVariables false
set_option linter.unusedSimpArgs false
structure AcJ (w0 : World) (bR pa pb pc : Nat) (ra rb rc : Int) (nm : ByteArray) (listed : Array Bool) (W : World) (y8 y25 y26 y27 y28 y29 y30 y31 y32 y33 y34 y35 y36 y37 : Value) : Prop where
 f0 : listed.getD 0 true = true → y25 = .pointer (some ⟨bR, 1, none⟩)
 f1 : listed.getD 1 true = true → y26 = .int .i64 ra
 f2 : listed.getD 2 true = true → y27 = .int .i64 (pa : Int)
 f3 : listed.getD 3 true = true → y28 = .pointer (some ⟨bR, 2, none⟩)
 f4 : listed.getD 4 true = true → y29 = .int .i64 rb
 f5 : listed.getD 5 true = true → y30 = .int .i64 (pb : Int)
 f6 : listed.getD 6 true = true → ∃ s : Nat, y31 = .slice (some ⟨s, 0, none⟩) 3 3 ∧ (listed.getD 14 true = false → s < W.heap.size ∧ W.cell? ⟨s, pc, none⟩ = some (.string nm))
 f7 : listed.getD 7 true = true → y32 = .pointer (some ⟨bR, 3, none⟩)
 f8 : listed.getD 8 true = true → y33 = .int .i64 rc
 f9 : listed.getD 9 true = true → y34 = .int .i64 (pc : Int)
 f10 : listed.getD 10 true = true → ∃ s : Nat, y35 = .pointer (some ⟨s, pc, none⟩) ∧ (listed.getD 14 true = false → s < W.heap.size ∧ W.cell? ⟨s, pc, none⟩ = some (.string nm))
 f11 : listed.getD 11 true = true → y36 = .string nm
 f12 : listed.getD 12 true = true → y37 = .agg #[.int .i64 0, .int .i64 (pa : Int), .int .i64 (pb : Int), .int .i64 0, .string nm, .string ⟨#[]⟩]
 f13 : listed.getD 13 true = true → ∃ s : Nat, y8 = .pointer (some ⟨s, 0, none⟩) ∧ (listed.getD 14 true = false → w0.heap.size ≤ s ∧ Blk W s 26 #[.int .i64 0, .int .i64 0, .int .i64 0, .int .i64 0, .string ⟨#[]⟩, .string ⟨#[]⟩])
 f14 : listed.getD 14 true = true → ∃ s, y8 = .pointer (some ⟨s, 0, none⟩) ∧ w0.heap.size ≤ s ∧ Blk W s 26 #[.int .i64 0, .int .i64 (pa : Int), .int .i64 (pb : Int), .int .i64 0, .string nm, .string ⟨#[]⟩]
 q14_10 : listed.getD 14 true = true → listed.getD 10 true = true
 q14_11 : listed.getD 14 true = true → listed.getD 11 true = true
 q14_13 : listed.getD 14 true = true → listed.getD 13 true = true
 q14_6 : listed.getD 14 true = true → listed.getD 6 true = true
 w : Below w0.heap.size w0 W
noncomputable def actsRC : Code := ((Tryd.f15.body.bind (regAt 6)).getD .skip)
set_option maxRecDepth 1000000 in
set_option maxHeartbeats 8000000 in
theorem actsR (w0 : World) (bR pa pb pc : Nat) (ra rb rc : Int) (nm : ByteArray) {v0 v1 v2 v3 v4 v5 v6 v8 v9 v10 v11 v12 v13 v14 v15 v16 v17 v18 v19 v20 v21 v22 v23 v24 v25 v26 v27 v28 v29 v30 v31 v32 v33 v34 v35 v36 v37 v38 v39 v40 v41 v42 v43 v44 v45 v46 v47 v48 v49 v50 v51 v52 v53 v54 v55 v56 v57 v58 v59 v60 v61 v62 v63 v64 v65 v66 v67 v68 v69 v70 v71 v72 v73 v74 v75 v76 v77 v78 v79 v80 v81 v82 v83 v84 v85 v86 v87 v88 v89 v90 v91 v92 v93 v94 v95 v96 v97 v98 v99 v100 v101 v102 v103 v104 v105 v106 : Value} (wr : World) (Q : Exit → Act → World → Prop) (hbs : Below w0.heap.size w0 wr.drew) (hlR : bR < w0.heap.size) (hR1 : w0.cell? ⟨bR, 1, none⟩ = some (.int .i64 ra)) (hR2 : w0.cell? ⟨bR, 2, none⟩ = some (.int .i64 rb)) (hR3 : w0.cell? ⟨bR, 3, none⟩ = some (.int .i64 rc)) (hpc3 : pc < 3) (PA : Hid (∀ W : World, Calls Tryd.prog 13 #[.int .i64 ra, .int .i64 3] W fun e w' => e = .returned (.int .i64 (pa : Nat)) ∧ W = w')) (PB : Hid (∀ W : World, Calls Tryd.prog 13 #[.int .i64 rb, .int .i64 6] W fun e w' => e = .returned (.int .i64 (pb : Nat)) ∧ W = w')) (PC : Hid (∀ W : World, Calls Tryd.prog 13 #[.int .i64 rc, .int .i64 3] W fun e w' => e = .returned (.int .i64 (pc : Nat)) ∧ W = w')) (hnm : ∀ W : World, (W.alloc (.cells #[.string ⟨#[102]⟩, .string ⟨#[103]⟩, .string ⟨#[100, 101, 118]⟩] 9)).cell? ⟨W.heap.size, pc, none⟩ = some (.string nm))
  (hQ : ∀ (listed : Array Bool) (W : World) (y8 y25 y26 y27 y28 y29 y30 y31 y32 y33 y34 y35 y36 y37 : Value), (∀ i, i < 15 → listed.getD i true = true) → AcJ w0 bR pa pb pc ra rb rc nm listed W y8 y25 y26 y27 y28 y29 y30 y31 y32 y33 y34 y35 y36 y37 → Q .normal ⟨#[v0, v1, v2, v3, v4, v5, v6, .pointer (some ⟨bR, 0, none⟩), y8, v9, v10, v11, v12, v13, v14, v15, v16, v17, v18, v19, v20, v21, v22, v23, v24, y25, y26, y27, y28, y29, y30, y31, y32, y33, y34, y35, y36, y37, v38, v39, v40, v41, v42, v43, v44, v45, v46, v47, v48, v49, v50, v51, v52, v53, v54, v55, v56, v57, v58, v59, v60, v61, v62, v63, v64, v65, v66, v67, v68, v69, v70, v71, v72, v73, v74, v75, v76, v77, v78, v79, v80, v81, v82, v83, v84, v85, v86, v87, v88, v89, v90, v91, v92, v93, v94, v95, v96, v97, v98, v99, v100, v101, v102, v103, v104, v105, v106], []⟩ W) :
  Code.wp Tryd.prog actsRC Q ⟨#[v0, v1, v2, v3, v4, v5, v6, .pointer (some ⟨bR, 0, none⟩), v8, v9, v10, v11, v12, v13, v14, v15, v16, v17, v18, v19, v20, v21, v22, v23, v24, v25, v26, v27, v28, v29, v30, v31, v32, v33, v34, v35, v36, v37, v38, v39, v40, v41, v42, v43, v44, v45, v46, v47, v48, v49, v50, v51, v52, v53, v54, v55, v56, v57, v58, v59, v60, v61, v62, v63, v64, v65, v66, v67, v68, v69, v70, v71, v72, v73, v74, v75, v76, v77, v78, v79, v80, v81, v82, v83, v84, v85, v86, v87, v88, v89, v90, v91, v92, v93, v94, v95, v96, v97, v98, v99, v100, v101, v102, v103, v104, v105, v106], []⟩ wr := by
 have HQ := Lib.hid hQ
 clear hQ
 conv => arg 2; whnf
 refine wp_region_invB (fun listed a W => ∃ y8 y25 y26 y27 y28 y29 y30 y31 y32 y33 y34 y35 y36 y37, AcJ w0 bR pa pb pc ra rb rc nm listed W y8 y25 y26 y27 y28 y29 y30 y31 y32 y33 y34 y35 y36 y37 ∧ a = ⟨#[v0, v1, v2, v3, v4, v5, v6, .pointer (some ⟨bR, 0, none⟩), y8, v9, v10, v11, v12, v13, v14, v15, v16, v17, v18, v19, v20, v21, v22, v23, v24, y25, y26, y27, y28, y29, y30, y31, y32, y33, y34, y35, y36, y37, v38, v39, v40, v41, v42, v43, v44, v45, v46, v47, v48, v49, v50, v51, v52, v53, v54, v55, v56, v57, v58, v59, v60, v61, v62, v63, v64, v65, v66, v67, v68, v69, v70, v71, v72, v73, v74, v75, v76, v77, v78, v79, v80, v81, v82, v83, v84, v85, v86, v87, v88, v89, v90, v91, v92, v93, v94, v95, v96, v97, v98, v99, v100, v101, v102, v103, v104, v105, v106], []⟩) (by kernel_rfl) (ord_ofB (by kernel_rfl)) ?start ?step ?fin
 case start => exact ⟨_, _, _, _, _, _, _, _, _, _, _, _, _, _, ⟨fun h => absurd h (by decide), fun h => absurd h (by decide), fun h => absurd h (by decide), fun h => absurd h (by decide), fun h => absurd h (by decide), fun h => absurd h (by decide), fun h => absurd h (by decide), fun h => absurd h (by decide), fun h => absurd h (by decide), fun h => absurd h (by decide), fun h => absurd h (by decide), fun h => absurd h (by decide), fun h => absurd h (by decide), fun h => absurd h (by decide), fun h => absurd h (by decide), fun h => absurd h (by decide), fun h => absurd h (by decide), fun h => absurd h (by decide), fun h => absurd h (by decide), hbs⟩, rfl⟩
 case step =>
  intro i o ho listed a W hl haf hI K hK
  obtain ⟨y8, y25, y26, y27, y28, y29, y30, y31, y32, y33, y34, y35, y36, y37, hJ, rfl⟩ := hI
  have hi : i < 15 := (Array.getElem?_eq_some_iff.1 ho).1
  have h16 : i = 0 ∨ i = 1 ∨ i = 2 ∨ i = 3 ∨ i = 4 ∨ i = 5 ∨ i = 6 ∨ i = 7 ∨ i = 8 ∨ i = 9 ∨ i = 10 ∨ i = 11 ∨ i = 12 ∨ i = 13 ∨ i = 14 := by omega
  rcases h16 with rfl | rfl | rfl | rfl | rfl | rfl | rfl | rfl | rfl | rfl | rfl | rfl | rfl | rfl | rfl
  ·have ho' := Option.some.inj ho
   subst ho'
   have HJ := Lib.hid hJ
   clear hJ haf
   try unfold pt
   go_simp
   have hJ := HJ.out
   exact hK _ _ ⟨_, _, _, _, _, _, _, _, _, _, _, _, _, _, ⟨fun _ => rfl, fun x => hJ.f1 (upneR (by decide) x), fun x => hJ.f2 (upneR (by decide) x), fun x => hJ.f3 (upneR (by decide) x), fun x => hJ.f4 (upneR (by decide) x), fun x => hJ.f5 (upneR (by decide) x), fun x => by obtain ⟨s, e1, e2⟩ := hJ.f6 (upneR (by decide) x); exact ⟨s, e1, fun h => e2 (by rw [upeqR (by decide)] at h; exact h)⟩, fun x => hJ.f7 (upneR (by decide) x), fun x => hJ.f8 (upneR (by decide) x), fun x => hJ.f9 (upneR (by decide) x), fun x => by obtain ⟨s, e1, e2⟩ := hJ.f10 (upneR (by decide) x); exact ⟨s, e1, fun h => e2 (by rw [upeqR (by decide)] at h; exact h)⟩, fun x => hJ.f11 (upneR (by decide) x), fun x => hJ.f12 (upneR (by decide) x), fun x => by obtain ⟨s, e1, e2⟩ := hJ.f13 (upneR (by decide) x); exact ⟨s, e1, fun h => e2 (by rw [upeqR (by decide)] at h; exact h)⟩, fun x => hJ.f14 (upneR (by decide) x), fun x => by rw [upeqR (by decide)]; exact hJ.q14_10 (upneR (by decide) x), fun x => by rw [upeqR (by decide)]; exact hJ.q14_11 (upneR (by decide) x), fun x => by rw [upeqR (by decide)]; exact hJ.q14_13 (upneR (by decide) x), fun x => by rw [upeqR (by decide)]; exact hJ.q14_6 (upneR (by decide) x), hJ.w⟩, rfl⟩
  ·have ho' := Option.some.inj ho
   subst ho'
   simp [Region.binds] at haf
   have p0 : listed.getD 0 true = true := waitsR (by simp [haf])
   obtain rfl := hJ.f0 p0
   have e1 := (hJ.w.cell (p := ⟨bR, 1, none⟩) hlR).trans hR1
   have HJ := Lib.hid hJ
   clear hJ haf
   try unfold pt
   go_simp
   have hJ := HJ.out
   exact hK _ _ ⟨_, _, _, _, _, _, _, _, _, _, _, _, _, _, ⟨fun x => hJ.f0 (upneR (by decide) x), fun _ => rfl, fun x => hJ.f2 (upneR (by decide) x), fun x => hJ.f3 (upneR (by decide) x), fun x => hJ.f4 (upneR (by decide) x), fun x => hJ.f5 (upneR (by decide) x), fun x => by obtain ⟨s, e1, e2⟩ := hJ.f6 (upneR (by decide) x); exact ⟨s, e1, fun h => e2 (by rw [upeqR (by decide)] at h; exact h)⟩, fun x => hJ.f7 (upneR (by decide) x), fun x => hJ.f8 (upneR (by decide) x), fun x => hJ.f9 (upneR (by decide) x), fun x => by obtain ⟨s, e1, e2⟩ := hJ.f10 (upneR (by decide) x); exact ⟨s, e1, fun h => e2 (by rw [upeqR (by decide)] at h; exact h)⟩, fun x => hJ.f11 (upneR (by decide) x), fun x => hJ.f12 (upneR (by decide) x), fun x => by obtain ⟨s, e1, e2⟩ := hJ.f13 (upneR (by decide) x); exact ⟨s, e1, fun h => e2 (by rw [upeqR (by decide)] at h; exact h)⟩, fun x => hJ.f14 (upneR (by decide) x), fun x => by rw [upeqR (by decide)]; exact hJ.q14_10 (upneR (by decide) x), fun x => by rw [upeqR (by decide)]; exact hJ.q14_11 (upneR (by decide) x), fun x => by rw [upeqR (by decide)]; exact hJ.q14_13 (upneR (by decide) x), fun x => by rw [upeqR (by decide)]; exact hJ.q14_6 (upneR (by decide) x), hJ.w⟩, rfl⟩
  ·have ho' := Option.some.inj ho
   subst ho'
   simp [Region.binds] at haf
   have p1 : listed.getD 1 true = true := waitsR (by simp [haf])
   obtain rfl := hJ.f1 p1
   have HJ := Lib.hid hJ
   clear hJ haf
   try unfold pt
   go_simp
   go_at_call 13
   refine (PA.out _).mono ?_
   rintro e' w2 ⟨rfl, rfl⟩
   have hJ := HJ.out
   exact hK _ _ ⟨_, _, _, _, _, _, _, _, _, _, _, _, _, _, ⟨fun x => hJ.f0 (upneR (by decide) x), fun x => hJ.f1 (upneR (by decide) x), fun _ => rfl, fun x => hJ.f3 (upneR (by decide) x), fun x => hJ.f4 (upneR (by decide) x), fun x => hJ.f5 (upneR (by decide) x), fun x => by obtain ⟨s, e1, e2⟩ := hJ.f6 (upneR (by decide) x); exact ⟨s, e1, fun h => e2 (by rw [upeqR (by decide)] at h; exact h)⟩, fun x => hJ.f7 (upneR (by decide) x), fun x => hJ.f8 (upneR (by decide) x), fun x => hJ.f9 (upneR (by decide) x), fun x => by obtain ⟨s, e1, e2⟩ := hJ.f10 (upneR (by decide) x); exact ⟨s, e1, fun h => e2 (by rw [upeqR (by decide)] at h; exact h)⟩, fun x => hJ.f11 (upneR (by decide) x), fun x => hJ.f12 (upneR (by decide) x), fun x => by obtain ⟨s, e1, e2⟩ := hJ.f13 (upneR (by decide) x); exact ⟨s, e1, fun h => e2 (by rw [upeqR (by decide)] at h; exact h)⟩, fun x => hJ.f14 (upneR (by decide) x), fun x => by rw [upeqR (by decide)]; exact hJ.q14_10 (upneR (by decide) x), fun x => by rw [upeqR (by decide)]; exact hJ.q14_11 (upneR (by decide) x), fun x => by rw [upeqR (by decide)]; exact hJ.q14_13 (upneR (by decide) x), fun x => by rw [upeqR (by decide)]; exact hJ.q14_6 (upneR (by decide) x), hJ.w⟩, rfl⟩
  ·have ho' := Option.some.inj ho
   subst ho'
   have HJ := Lib.hid hJ
   clear hJ haf
   try unfold pt
   go_simp
   have hJ := HJ.out
   exact hK _ _ ⟨_, _, _, _, _, _, _, _, _, _, _, _, _, _, ⟨fun x => hJ.f0 (upneR (by decide) x), fun x => hJ.f1 (upneR (by decide) x), fun x => hJ.f2 (upneR (by decide) x), fun _ => rfl, fun x => hJ.f4 (upneR (by decide) x), fun x => hJ.f5 (upneR (by decide) x), fun x => by obtain ⟨s, e1, e2⟩ := hJ.f6 (upneR (by decide) x); exact ⟨s, e1, fun h => e2 (by rw [upeqR (by decide)] at h; exact h)⟩, fun x => hJ.f7 (upneR (by decide) x), fun x => hJ.f8 (upneR (by decide) x), fun x => hJ.f9 (upneR (by decide) x), fun x => by obtain ⟨s, e1, e2⟩ := hJ.f10 (upneR (by decide) x); exact ⟨s, e1, fun h => e2 (by rw [upeqR (by decide)] at h; exact h)⟩, fun x => hJ.f11 (upneR (by decide) x), fun x => hJ.f12 (upneR (by decide) x), fun x => by obtain ⟨s, e1, e2⟩ := hJ.f13 (upneR (by decide) x); exact ⟨s, e1, fun h => e2 (by rw [upeqR (by decide)] at h; exact h)⟩, fun x => hJ.f14 (upneR (by decide) x), fun x => by rw [upeqR (by decide)]; exact hJ.q14_10 (upneR (by decide) x), fun x => by rw [upeqR (by decide)]; exact hJ.q14_11 (upneR (by decide) x), fun x => by rw [upeqR (by decide)]; exact hJ.q14_13 (upneR (by decide) x), fun x => by rw [upeqR (by decide)]; exact hJ.q14_6 (upneR (by decide) x), hJ.w⟩, rfl⟩
  ·have ho' := Option.some.inj ho
   subst ho'
   simp [Region.binds] at haf
   have p3 : listed.getD 3 true = true := waitsR (by simp [haf])
   obtain rfl := hJ.f3 p3
   have e1 := (hJ.w.cell (p := ⟨bR, 2, none⟩) hlR).trans hR2
   have HJ := Lib.hid hJ
   clear hJ haf
   try unfold pt
   go_simp
   have hJ := HJ.out
   exact hK _ _ ⟨_, _, _, _, _, _, _, _, _, _, _, _, _, _, ⟨fun x => hJ.f0 (upneR (by decide) x), fun x => hJ.f1 (upneR (by decide) x), fun x => hJ.f2 (upneR (by decide) x), fun x => hJ.f3 (upneR (by decide) x), fun _ => rfl, fun x => hJ.f5 (upneR (by decide) x), fun x => by obtain ⟨s, e1, e2⟩ := hJ.f6 (upneR (by decide) x); exact ⟨s, e1, fun h => e2 (by rw [upeqR (by decide)] at h; exact h)⟩, fun x => hJ.f7 (upneR (by decide) x), fun x => hJ.f8 (upneR (by decide) x), fun x => hJ.f9 (upneR (by decide) x), fun x => by obtain ⟨s, e1, e2⟩ := hJ.f10 (upneR (by decide) x); exact ⟨s, e1, fun h => e2 (by rw [upeqR (by decide)] at h; exact h)⟩, fun x => hJ.f11 (upneR (by decide) x), fun x => hJ.f12 (upneR (by decide) x), fun x => by obtain ⟨s, e1, e2⟩ := hJ.f13 (upneR (by decide) x); exact ⟨s, e1, fun h => e2 (by rw [upeqR (by decide)] at h; exact h)⟩, fun x => hJ.f14 (upneR (by decide) x), fun x => by rw [upeqR (by decide)]; exact hJ.q14_10 (upneR (by decide) x), fun x => by rw [upeqR (by decide)]; exact hJ.q14_11 (upneR (by decide) x), fun x => by rw [upeqR (by decide)]; exact hJ.q14_13 (upneR (by decide) x), fun x => by rw [upeqR (by decide)]; exact hJ.q14_6 (upneR (by decide) x), hJ.w⟩, rfl⟩
  ·have ho' := Option.some.inj ho
   subst ho'
   simp [Region.binds] at haf
   have p4 : listed.getD 4 true = true := waitsR (by simp [haf])
   have p2 : listed.getD 2 true = true := waitsR (by simp [haf])
   obtain rfl := hJ.f4 p4
   obtain rfl := hJ.f2 p2
   have HJ := Lib.hid hJ
   clear hJ haf
   try unfold pt
   go_simp
   go_at_call 13
   refine (PB.out _).mono ?_
   rintro e' w2 ⟨rfl, rfl⟩
   have hJ := HJ.out
   exact hK _ _ ⟨_, _, _, _, _, _, _, _, _, _, _, _, _, _, ⟨fun x => hJ.f0 (upneR (by decide) x), fun x => hJ.f1 (upneR (by decide) x), fun x => hJ.f2 (upneR (by decide) x), fun x => hJ.f3 (upneR (by decide) x), fun x => hJ.f4 (upneR (by decide) x), fun _ => rfl, fun x => by obtain ⟨s, e1, e2⟩ := hJ.f6 (upneR (by decide) x); exact ⟨s, e1, fun h => e2 (by rw [upeqR (by decide)] at h; exact h)⟩, fun x => hJ.f7 (upneR (by decide) x), fun x => hJ.f8 (upneR (by decide) x), fun x => hJ.f9 (upneR (by decide) x), fun x => by obtain ⟨s, e1, e2⟩ := hJ.f10 (upneR (by decide) x); exact ⟨s, e1, fun h => e2 (by rw [upeqR (by decide)] at h; exact h)⟩, fun x => hJ.f11 (upneR (by decide) x), fun x => hJ.f12 (upneR (by decide) x), fun x => by obtain ⟨s, e1, e2⟩ := hJ.f13 (upneR (by decide) x); exact ⟨s, e1, fun h => e2 (by rw [upeqR (by decide)] at h; exact h)⟩, fun x => hJ.f14 (upneR (by decide) x), fun x => by rw [upeqR (by decide)]; exact hJ.q14_10 (upneR (by decide) x), fun x => by rw [upeqR (by decide)]; exact hJ.q14_11 (upneR (by decide) x), fun x => by rw [upeqR (by decide)]; exact hJ.q14_13 (upneR (by decide) x), fun x => by rw [upeqR (by decide)]; exact hJ.q14_6 (upneR (by decide) x), hJ.w⟩, rfl⟩
  ·have ho' := Option.some.inj ho
   subst ho'
   have HJ := Lib.hid hJ
   clear hJ haf
   try unfold pt
   go_simp
   have hJ := HJ.out
   exact hK _ _ ⟨_, _, _, _, _, _, _, _, _, _, _, _, _, _, ⟨fun x => hJ.f0 (upneR (by decide) x), fun x => hJ.f1 (upneR (by decide) x), fun x => hJ.f2 (upneR (by decide) x), fun x => hJ.f3 (upneR (by decide) x), fun x => hJ.f4 (upneR (by decide) x), fun x => hJ.f5 (upneR (by decide) x), fun _ => ⟨_, rfl, fun _ => ⟨by simp, hnm W⟩⟩, fun x => hJ.f7 (upneR (by decide) x), fun x => hJ.f8 (upneR (by decide) x), fun x => hJ.f9 (upneR (by decide) x), fun x => by obtain ⟨s, e1, e2⟩ := hJ.f10 (upneR (by decide) x); exact ⟨s, e1, fun h => ⟨Nat.lt_trans (e2 (by rw [upeqR (by decide)] at h; exact h)).1 (by simp), (World.cell?_alloc_lt _ _ _ (e2 (by rw [upeqR (by decide)] at h; exact h)).1).trans (e2 (by rw [upeqR (by decide)] at h; exact h)).2⟩⟩, fun x => hJ.f11 (upneR (by decide) x), fun x => hJ.f12 (upneR (by decide) x), fun x => by obtain ⟨s, e1, e2⟩ := hJ.f13 (upneR (by decide) x); exact ⟨s, e1, fun h => ⟨(e2 (by rw [upeqR (by decide)] at h; exact h)).1, (e2 (by rw [upeqR (by decide)] at h; exact h)).2.alloc _⟩⟩, fun x => by have e := hJ.q14_6 (upneR (by decide) x); rw [hl] at e; exact absurd e (by decide), fun x => by rw [upeqR (by decide)]; exact hJ.q14_10 (upneR (by decide) x), fun x => by rw [upeqR (by decide)]; exact hJ.q14_11 (upneR (by decide) x), fun x => by rw [upeqR (by decide)]; exact hJ.q14_13 (upneR (by decide) x), fun _ => upselfR, hJ.w.alloc hJ.w.size _⟩, rfl⟩
  ·have ho' := Option.some.inj ho
   subst ho'
   have HJ := Lib.hid hJ
   clear hJ haf
   try unfold pt
   go_simp
   have hJ := HJ.out
   exact hK _ _ ⟨_, _, _, _, _, _, _, _, _, _, _, _, _, _, ⟨fun x => hJ.f0 (upneR (by decide) x), fun x => hJ.f1 (upneR (by decide) x), fun x => hJ.f2 (upneR (by decide) x), fun x => hJ.f3 (upneR (by decide) x), fun x => hJ.f4 (upneR (by decide) x), fun x => hJ.f5 (upneR (by decide) x), fun x => by obtain ⟨s, e1, e2⟩ := hJ.f6 (upneR (by decide) x); exact ⟨s, e1, fun h => e2 (by rw [upeqR (by decide)] at h; exact h)⟩, fun _ => rfl, fun x => hJ.f8 (upneR (by decide) x), fun x => hJ.f9 (upneR (by decide) x), fun x => by obtain ⟨s, e1, e2⟩ := hJ.f10 (upneR (by decide) x); exact ⟨s, e1, fun h => e2 (by rw [upeqR (by decide)] at h; exact h)⟩, fun x => hJ.f11 (upneR (by decide) x), fun x => hJ.f12 (upneR (by decide) x), fun x => by obtain ⟨s, e1, e2⟩ := hJ.f13 (upneR (by decide) x); exact ⟨s, e1, fun h => e2 (by rw [upeqR (by decide)] at h; exact h)⟩, fun x => hJ.f14 (upneR (by decide) x), fun x => by rw [upeqR (by decide)]; exact hJ.q14_10 (upneR (by decide) x), fun x => by rw [upeqR (by decide)]; exact hJ.q14_11 (upneR (by decide) x), fun x => by rw [upeqR (by decide)]; exact hJ.q14_13 (upneR (by decide) x), fun x => by rw [upeqR (by decide)]; exact hJ.q14_6 (upneR (by decide) x), hJ.w⟩, rfl⟩
  ·have ho' := Option.some.inj ho
   subst ho'
   simp [Region.binds] at haf
   have p7 : listed.getD 7 true = true := waitsR (by simp [haf])
   obtain rfl := hJ.f7 p7
   have e1 := (hJ.w.cell (p := ⟨bR, 3, none⟩) hlR).trans hR3
   have HJ := Lib.hid hJ
   clear hJ haf
   try unfold pt
   go_simp
   have hJ := HJ.out
   exact hK _ _ ⟨_, _, _, _, _, _, _, _, _, _, _, _, _, _, ⟨fun x => hJ.f0 (upneR (by decide) x), fun x => hJ.f1 (upneR (by decide) x), fun x => hJ.f2 (upneR (by decide) x), fun x => hJ.f3 (upneR (by decide) x), fun x => hJ.f4 (upneR (by decide) x), fun x => hJ.f5 (upneR (by decide) x), fun x => by obtain ⟨s, e1, e2⟩ := hJ.f6 (upneR (by decide) x); exact ⟨s, e1, fun h => e2 (by rw [upeqR (by decide)] at h; exact h)⟩, fun x => hJ.f7 (upneR (by decide) x), fun _ => rfl, fun x => hJ.f9 (upneR (by decide) x), fun x => by obtain ⟨s, e1, e2⟩ := hJ.f10 (upneR (by decide) x); exact ⟨s, e1, fun h => e2 (by rw [upeqR (by decide)] at h; exact h)⟩, fun x => hJ.f11 (upneR (by decide) x), fun x => hJ.f12 (upneR (by decide) x), fun x => by obtain ⟨s, e1, e2⟩ := hJ.f13 (upneR (by decide) x); exact ⟨s, e1, fun h => e2 (by rw [upeqR (by decide)] at h; exact h)⟩, fun x => hJ.f14 (upneR (by decide) x), fun x => by rw [upeqR (by decide)]; exact hJ.q14_10 (upneR (by decide) x), fun x => by rw [upeqR (by decide)]; exact hJ.q14_11 (upneR (by decide) x), fun x => by rw [upeqR (by decide)]; exact hJ.q14_13 (upneR (by decide) x), fun x => by rw [upeqR (by decide)]; exact hJ.q14_6 (upneR (by decide) x), hJ.w⟩, rfl⟩
  ·have ho' := Option.some.inj ho
   subst ho'
   simp [Region.binds] at haf
   have p8 : listed.getD 8 true = true := waitsR (by simp [haf])
   have p5 : listed.getD 5 true = true := waitsR (by simp [haf])
   obtain rfl := hJ.f8 p8
   obtain rfl := hJ.f5 p5
   have HJ := Lib.hid hJ
   clear hJ haf
   try unfold pt
   go_simp
   go_at_call 13
   refine (PC.out _).mono ?_
   rintro e' w2 ⟨rfl, rfl⟩
   have hJ := HJ.out
   exact hK _ _ ⟨_, _, _, _, _, _, _, _, _, _, _, _, _, _, ⟨fun x => hJ.f0 (upneR (by decide) x), fun x => hJ.f1 (upneR (by decide) x), fun x => hJ.f2 (upneR (by decide) x), fun x => hJ.f3 (upneR (by decide) x), fun x => hJ.f4 (upneR (by decide) x), fun x => hJ.f5 (upneR (by decide) x), fun x => by obtain ⟨s, e1, e2⟩ := hJ.f6 (upneR (by decide) x); exact ⟨s, e1, fun h => e2 (by rw [upeqR (by decide)] at h; exact h)⟩, fun x => hJ.f7 (upneR (by decide) x), fun x => hJ.f8 (upneR (by decide) x), fun _ => rfl, fun x => by obtain ⟨s, e1, e2⟩ := hJ.f10 (upneR (by decide) x); exact ⟨s, e1, fun h => e2 (by rw [upeqR (by decide)] at h; exact h)⟩, fun x => hJ.f11 (upneR (by decide) x), fun x => hJ.f12 (upneR (by decide) x), fun x => by obtain ⟨s, e1, e2⟩ := hJ.f13 (upneR (by decide) x); exact ⟨s, e1, fun h => e2 (by rw [upeqR (by decide)] at h; exact h)⟩, fun x => hJ.f14 (upneR (by decide) x), fun x => by rw [upeqR (by decide)]; exact hJ.q14_10 (upneR (by decide) x), fun x => by rw [upeqR (by decide)]; exact hJ.q14_11 (upneR (by decide) x), fun x => by rw [upeqR (by decide)]; exact hJ.q14_13 (upneR (by decide) x), fun x => by rw [upeqR (by decide)]; exact hJ.q14_6 (upneR (by decide) x), hJ.w⟩, rfl⟩
  ·have ho' := Option.some.inj ho
   subst ho'
   simp [Region.binds] at haf
   have p6 : listed.getD 6 true = true := waitsR (by simp [haf])
   have p9 : listed.getD 9 true = true := waitsR (by simp [haf])
   obtain ⟨s6, rfl, hE6⟩ := hJ.f6 p6
   obtain rfl := hJ.f9 p9
   have h14 : listed.getD 14 true = false := by rw [← Bool.not_eq_true]; intro e; have e := hJ.q14_10 e; rw [hl] at e; cases e
   have hpc : (pc : Int) < 3 := by omega
   have HJ := Lib.hid hJ
   clear hJ haf
   try unfold pt
   go_simp
   have hJ := HJ.out
   exact hK _ _ ⟨_, _, _, _, _, _, _, _, _, _, _, _, _, _, ⟨fun x => hJ.f0 (upneR (by decide) x), fun x => hJ.f1 (upneR (by decide) x), fun x => hJ.f2 (upneR (by decide) x), fun x => hJ.f3 (upneR (by decide) x), fun x => hJ.f4 (upneR (by decide) x), fun x => hJ.f5 (upneR (by decide) x), fun x => by obtain ⟨s, e1, e2⟩ := hJ.f6 (upneR (by decide) x); exact ⟨s, e1, fun h => e2 (by rw [upeqR (by decide)] at h; exact h)⟩, fun x => hJ.f7 (upneR (by decide) x), fun x => hJ.f8 (upneR (by decide) x), fun x => hJ.f9 (upneR (by decide) x), fun _ => ⟨s6, rfl, fun _ => hE6 h14⟩, fun x => hJ.f11 (upneR (by decide) x), fun x => hJ.f12 (upneR (by decide) x), fun x => by obtain ⟨s, e1, e2⟩ := hJ.f13 (upneR (by decide) x); exact ⟨s, e1, fun h => e2 (by rw [upeqR (by decide)] at h; exact h)⟩, fun x => hJ.f14 (upneR (by decide) x), fun _ => upselfR, fun x => by rw [upeqR (by decide)]; exact hJ.q14_11 (upneR (by decide) x), fun x => by rw [upeqR (by decide)]; exact hJ.q14_13 (upneR (by decide) x), fun x => by rw [upeqR (by decide)]; exact hJ.q14_6 (upneR (by decide) x), hJ.w⟩, rfl⟩
  ·have ho' := Option.some.inj ho
   subst ho'
   simp [Region.binds] at haf
   have p10 : listed.getD 10 true = true := waitsR (by simp [haf])
   obtain ⟨s10, rfl, hE10⟩ := hJ.f10 p10
   have h14 : listed.getD 14 true = false := by rw [← Bool.not_eq_true]; intro e; have e := hJ.q14_11 e; rw [hl] at e; cases e
   have e1 := (hE10 h14).2
   have e2 := (hE10 h14).1
   have HJ := Lib.hid hJ
   clear hJ haf
   try unfold pt
   go_simp
   have hJ := HJ.out
   exact hK _ _ ⟨_, _, _, _, _, _, _, _, _, _, _, _, _, _, ⟨fun x => hJ.f0 (upneR (by decide) x), fun x => hJ.f1 (upneR (by decide) x), fun x => hJ.f2 (upneR (by decide) x), fun x => hJ.f3 (upneR (by decide) x), fun x => hJ.f4 (upneR (by decide) x), fun x => hJ.f5 (upneR (by decide) x), fun x => by obtain ⟨s, e1, e2⟩ := hJ.f6 (upneR (by decide) x); exact ⟨s, e1, fun h => e2 (by rw [upeqR (by decide)] at h; exact h)⟩, fun x => hJ.f7 (upneR (by decide) x), fun x => hJ.f8 (upneR (by decide) x), fun x => hJ.f9 (upneR (by decide) x), fun x => by obtain ⟨s, e1, e2⟩ := hJ.f10 (upneR (by decide) x); exact ⟨s, e1, fun h => e2 (by rw [upeqR (by decide)] at h; exact h)⟩, fun _ => rfl, fun x => hJ.f12 (upneR (by decide) x), fun x => by obtain ⟨s, e1, e2⟩ := hJ.f13 (upneR (by decide) x); exact ⟨s, e1, fun h => e2 (by rw [upeqR (by decide)] at h; exact h)⟩, fun x => hJ.f14 (upneR (by decide) x), fun x => by rw [upeqR (by decide)]; exact hJ.q14_10 (upneR (by decide) x), fun _ => upselfR, fun x => by rw [upeqR (by decide)]; exact hJ.q14_13 (upneR (by decide) x), fun x => by rw [upeqR (by decide)]; exact hJ.q14_6 (upneR (by decide) x), hJ.w⟩, rfl⟩
  ·have ho' := Option.some.inj ho
   subst ho'
   simp [Region.binds] at haf
   have p2 : listed.getD 2 true = true := waitsR (by simp [haf])
   have p5 : listed.getD 5 true = true := waitsR (by simp [haf])
   have p11 : listed.getD 11 true = true := waitsR (by simp [haf])
   obtain rfl := hJ.f2 p2
   obtain rfl := hJ.f5 p5
   obtain rfl := hJ.f11 p11
   have HJ := Lib.hid hJ
   clear hJ haf
   try unfold pt
   go_simp
   have hJ := HJ.out
   exact hK _ _ ⟨_, _, _, _, _, _, _, _, _, _, _, _, _, _, ⟨fun x => hJ.f0 (upneR (by decide) x), fun x => hJ.f1 (upneR (by decide) x), fun x => hJ.f2 (upneR (by decide) x), fun x => hJ.f3 (upneR (by decide) x), fun x => hJ.f4 (upneR (by decide) x), fun x => hJ.f5 (upneR (by decide) x), fun x => by obtain ⟨s, e1, e2⟩ := hJ.f6 (upneR (by decide) x); exact ⟨s, e1, fun h => e2 (by rw [upeqR (by decide)] at h; exact h)⟩, fun x => hJ.f7 (upneR (by decide) x), fun x => hJ.f8 (upneR (by decide) x), fun x => hJ.f9 (upneR (by decide) x), fun x => by obtain ⟨s, e1, e2⟩ := hJ.f10 (upneR (by decide) x); exact ⟨s, e1, fun h => e2 (by rw [upeqR (by decide)] at h; exact h)⟩, fun x => hJ.f11 (upneR (by decide) x), fun _ => rfl, fun x => by obtain ⟨s, e1, e2⟩ := hJ.f13 (upneR (by decide) x); exact ⟨s, e1, fun h => e2 (by rw [upeqR (by decide)] at h; exact h)⟩, fun x => hJ.f14 (upneR (by decide) x), fun x => by rw [upeqR (by decide)]; exact hJ.q14_10 (upneR (by decide) x), fun x => by rw [upeqR (by decide)]; exact hJ.q14_11 (upneR (by decide) x), fun x => by rw [upeqR (by decide)]; exact hJ.q14_13 (upneR (by decide) x), fun x => by rw [upeqR (by decide)]; exact hJ.q14_6 (upneR (by decide) x), hJ.w⟩, rfl⟩
  ·have ho' := Option.some.inj ho
   subst ho'
   have HJ := Lib.hid hJ
   clear hJ haf
   try unfold pt
   go_simp
   have hJ := HJ.out
   exact hK _ _ ⟨_, _, _, _, _, _, _, _, _, _, _, _, _, _, ⟨fun x => hJ.f0 (upneR (by decide) x), fun x => hJ.f1 (upneR (by decide) x), fun x => hJ.f2 (upneR (by decide) x), fun x => hJ.f3 (upneR (by decide) x), fun x => hJ.f4 (upneR (by decide) x), fun x => hJ.f5 (upneR (by decide) x), fun x => by obtain ⟨s, e1, e2⟩ := hJ.f6 (upneR (by decide) x); exact ⟨s, e1, fun h => ⟨Nat.lt_trans (e2 (by rw [upeqR (by decide)] at h; exact h)).1 (by simp), (World.cell?_alloc_lt _ _ _ (e2 (by rw [upeqR (by decide)] at h; exact h)).1).trans (e2 (by rw [upeqR (by decide)] at h; exact h)).2⟩⟩, fun x => hJ.f7 (upneR (by decide) x), fun x => hJ.f8 (upneR (by decide) x), fun x => hJ.f9 (upneR (by decide) x), fun x => by obtain ⟨s, e1, e2⟩ := hJ.f10 (upneR (by decide) x); exact ⟨s, e1, fun h => ⟨Nat.lt_trans (e2 (by rw [upeqR (by decide)] at h; exact h)).1 (by simp), (World.cell?_alloc_lt _ _ _ (e2 (by rw [upeqR (by decide)] at h; exact h)).1).trans (e2 (by rw [upeqR (by decide)] at h; exact h)).2⟩⟩, fun x => hJ.f11 (upneR (by decide) x), fun x => hJ.f12 (upneR (by decide) x), fun _ => ⟨_, rfl, fun _ => ⟨hJ.w.size, Blk.new _ _ _⟩⟩, fun x => by have e := hJ.q14_13 (upneR (by decide) x); rw [hl] at e; exact absurd e (by decide), fun x => by rw [upeqR (by decide)]; exact hJ.q14_10 (upneR (by decide) x), fun x => by rw [upeqR (by decide)]; exact hJ.q14_11 (upneR (by decide) x), fun _ => upselfR, fun x => by rw [upeqR (by decide)]; exact hJ.q14_6 (upneR (by decide) x), hJ.w.alloc hJ.w.size _⟩, rfl⟩
  ·have ho' := Option.some.inj ho
   subst ho'
   simp [Region.binds] at haf
   have p13 : listed.getD 13 true = true := waitsR (by simp [haf])
   have p12 : listed.getD 12 true = true := waitsR (by simp [haf])
   have p11 : listed.getD 11 true = true := waitsR (by simp [haf])
   have p10 : listed.getD 10 true = true := waitsR (by simp [haf])
   have p6 : listed.getD 6 true = true := waitsR (by simp [haf])
   obtain ⟨s13, rfl, hE13⟩ := hJ.f13 p13
   obtain rfl := hJ.f12 p12
   obtain rfl := hJ.f11 p11
   obtain ⟨s10, rfl, hE10⟩ := hJ.f10 p10
   obtain ⟨s6, rfl, hE6⟩ := hJ.f6 p6
   have hb := (hE13 hl).2
   have e0 := hb.cell 0
   have e1 := hb.cell 1
   have e2 := hb.cell 2
   have e3 := hb.cell 3
   have e4 := hb.cell 4
   have e5 := hb.cell 5
   have f0 := hb.frozen 0
   have f1 := hb.frozen 1
   have f2 := hb.frozen 2
   have f3 := hb.frozen 3
   have f4 := hb.frozen 4
   have f5 := hb.frozen 5
   have hlt := hb.lt
   simp at e0 e1 e2 e3 e4 e5
   have HJ := Lib.hid hJ
   clear hJ haf
   try unfold pt
   go_simp
   have hJ := HJ.out
   exact hK _ _ ⟨_, _, _, _, _, _, _, _, _, _, _, _, _, _, ⟨fun x => hJ.f0 (upneR (by decide) x), fun x => hJ.f1 (upneR (by decide) x), fun x => hJ.f2 (upneR (by decide) x), fun x => hJ.f3 (upneR (by decide) x), fun x => hJ.f4 (upneR (by decide) x), fun x => hJ.f5 (upneR (by decide) x), fun x => by obtain ⟨s, e1, e2⟩ := hJ.f6 (upneR (by decide) x); exact ⟨s, e1, fun h => absurd h (by rw [upselfR]; decide)⟩, fun x => hJ.f7 (upneR (by decide) x), fun x => hJ.f8 (upneR (by decide) x), fun x => hJ.f9 (upneR (by decide) x), fun x => by obtain ⟨s, e1, e2⟩ := hJ.f10 (upneR (by decide) x); exact ⟨s, e1, fun h => absurd h (by rw [upselfR]; decide)⟩, fun x => hJ.f11 (upneR (by decide) x), fun x => hJ.f12 (upneR (by decide) x), fun x => by obtain ⟨s, e1, e2⟩ := hJ.f13 (upneR (by decide) x); exact ⟨s, e1, fun h => absurd h (by rw [upselfR]; decide)⟩, fun _ => ⟨_, rfl, (hE13 hl).1, (((((((hE13 hl).2.set_ 0 _).set_ 1 _).set_ 2 _).set_ 3 _).set_ 4 _).set_ 5 _)⟩, fun _ => by rw [upeqR (by decide)]; exact p10, fun _ => by rw [upeqR (by decide)]; exact p11, fun _ => by rw [upeqR (by decide)]; exact p13, fun _ => by rw [upeqR (by decide)]; exact p6, ((((((hJ.w.setCell (hE13 hl).1 _).setCell (hE13 hl).1 _).setCell (hE13 hl).1 _).setCell (hE13 hl).1 _).setCell (hE13 hl).1 _).setCell (hE13 hl).1 _)⟩, rfl⟩
 case fin =>
  intro listed a W hall hI
  obtain ⟨y8, y25, y26, y27, y28, y29, y30, y31, y32, y33, y34, y35, y36, y37, hJ, rfl⟩ := hI
  exact HQ.out listed W _ _ _ _ _ _ _ _ _ _ _ _ _ _ hall hJ
end Go.Proofs.YtdjamdbamkhblacDoor
namespace Go.Proofs.YtdjamdbamkhblacDoor
open Go.RowKit
structure Like (k h : Krn) : Prop where
 mods : h.mods = k.mods
 nodes : h.nodes = k.nodes
 pipes : h.pipes = k.pipes
 procs : h.procs = k.procs
 len : h.mem.length = k.mem.length
 mem : ∀ j, 64 ≤ j → h.mem.getD j 0 = k.mem.getD j 0
theorem Like.refl (k : Krn) : Like k k := ⟨rfl, rfl, rfl, rfl, rfl, fun _ _ => rfl⟩
theorem Like.withMem {k h : Krn} (hk : Like k h) {m m' : List Int} (hl : m'.length = m.length) (hm : ∀ j, 64 ≤ j → m'.getD j 0 = m.getD j 0) : Like { k with mem := m } { h with mem := m' } :=
 ⟨hk.mods, hk.nodes, hk.pipes, hk.procs, hl, hm⟩
theorem Like.symm {k h : Krn} (hl : Like k h) : Like h k := ⟨hl.mods.symm, hl.nodes.symm, hl.pipes.symm, hl.procs.symm, hl.len.symm, fun j hj => (hl.mem j hj).symm⟩
theorem Like.trans {a b c : Krn} (h : Like a b) (h' : Like b c) : Like a c := ⟨h'.mods.trans h.mods, h'.nodes.trans h.nodes, h'.pipes.trans h.pipes, h'.procs.trans h.procs, h'.len.trans h.len, fun j hj => (h'.mem j hj).trans (h.mem j hj)⟩
end Go.Proofs.YtdjamdbamkhblacDoor
namespace Go.Proofs.YtdjamdbamkhblacDoor
open Go.RowKit
def oneS : ByteArray := ⟨#[111, 110, 101]⟩
structure Dev0 (k : Krn) : Prop where
 live : (k.procs.getD 0 default).live = true
 opn : (k.procs.getD 0 default).ends.getD 0 default = ⟨1, 0, 0⟩
 kind : (k.nodes.getD 0 default).kind = 2
 unit : (k.nodes.getD 0 default).unit = 0
 name : (k.nodes.getD 0 default).name = oneS
theorem setEnd_other (k : Krn) (p i : Nat) (x : Opn) (h : ¬ (p = 0 ∧ i = 0)) : ((setEnd k p i x).procs.getD 0 default).ends.getD 0 default = (k.procs.getD 0 default).ends.getD 0 default ∧ ((setEnd k p i x).procs.getD 0 default).live = (k.procs.getD 0 default).live := by
 unfold setEnd
 simp only [List.getD_eq_getElem?_getD, List.getElem?_set]
 by_cases hp : p = 0
 ·subst hp
  have hi : i ≠ 0 := fun e => h ⟨rfl, e⟩
  by_cases h0 : 0 < k.procs.length
  ·simp [h0, hi]
  ·simp at h0
   simp [h0]
 ·simp [hp]
theorem Dev0.of_procs {k k' : Krn} (h : Dev0 k) (h1 : (k'.procs.getD 0 default).ends.getD 0 default = (k.procs.getD 0 default).ends.getD 0 default) (h2 : (k'.procs.getD 0 default).live = (k.procs.getD 0 default).live) (h3 : k'.nodes.getD 0 default = k.nodes.getD 0 default) : Dev0 k' :=
 ⟨h2.trans h.live, h1.trans h.opn, by rw [h3]; exact h.kind, by rw [h3]; exact h.unit, by rw [h3]; exact h.name⟩
theorem Dev0.setEnd {k : Krn} (h : Dev0 k) {p i : Nat} {x : Opn} (hn : ¬ (p = 0 ∧ i = 0)) : Dev0 (setEnd k p i x) :=
 h.of_procs (setEnd_other k p i x hn).1 (setEnd_other k p i x hn).2 rfl
theorem Dev0.tidy {k : Krn} (h : Dev0 k) : Dev0 (tidyK k) := by
 refine h.of_procs rfl rfl ?_
 unfold tidyK
 simp only [List.getD_eq_getElem?_getD, mapI_at, Nat.zero_add]
 cases hk : k.nodes[0]? with
 | none => rfl
 | some x =>
   have hn := h.name
   rw [List.getD_eq_getElem?_getD, hk, Option.getD_some] at hn
   simp only [Option.map_some, Option.getD_some]
   unfold tidyN
   rw [hn]
   rfl
theorem Dev0.setNod {k : Krn} (h : Dev0 k) {i : Nat} {x : Nod} (hi : i ≠ 0) : Dev0 (setNod k i x) := by
 refine h.of_procs rfl rfl ?_
 rw [setNod_getD, if_neg (fun e => hi e.1)]
theorem Dev0.mem {k : Krn} (h : Dev0 k) {m : List Int} : Dev0 { k with mem := m } := ⟨h.live, h.opn, h.kind, h.unit, h.name⟩
theorem Dev0.procs_set {k : Krn} (h : Dev0 k) {i : Nat} {p : Prc} (hi : i ≠ 0) : Dev0 { k with procs := k.procs.set i p } := by
 refine h.of_procs ?_ ?_ rfl <;> simp [List.getD_eq_getElem?_getD, hi]
end Go.Proofs.YtdjamdbamkhblacDoor
namespace Go.Proofs.YtdjamdbamkhblacDoor
open Go.RowKit
def NamesFrom (s : ByteArray) (k k' : Krn) : Prop := k'.mods = k.mods ∧ ∀ x ∈ k'.nodes, x.name = noS ∨ x.name = s ∨ ∃ y ∈ k.nodes, y.name = x.name
theorem NamesFrom.refl (s : ByteArray) (k : Krn) : NamesFrom s k k := ⟨rfl, fun x hx => .inr (.inr ⟨x, hx, rfl⟩)⟩
theorem NamesFrom.same {s : ByteArray} {k k' : Krn} (h1 : k'.mods = k.mods) (h2 : k'.nodes = k.nodes) : NamesFrom s k k' := ⟨h1, fun x hx => .inr (.inr ⟨x, by rw [← h2]; exact hx, rfl⟩)⟩
theorem NamesFrom.trans {s : ByteArray} {k k' k'' : Krn} (h : NamesFrom s k k') (h' : NamesFrom s k' k'') : NamesFrom s k k'' :=
 ⟨h'.1.trans h.1, fun x hx => by
   rcases h'.2 x hx with e | e | ⟨y, hy, e⟩
   ·exact .inl e
   ·exact .inr (.inl e)
   ·rw [← e]; exact h.2 y hy⟩
theorem NamesFrom.tidy (s : ByteArray) (k : Krn) : NamesFrom s k (tidyK k) := ⟨rfl, fun x hx => by
 obtain ⟨i, hi, rfl⟩ := List.mem_iff_getElem.1 hx
 have hi' : i < k.nodes.length := by
  have : (tidyK k).nodes.length = k.nodes.length := mapI_length _ _ _
  omega
 have e : (tidyK k).nodes[i] = tidyN k.procs i k.nodes[i] := mapI_get _ _ _ hi
 rw [e]
 unfold tidyN
 split
 ·exact .inl rfl
 ·exact .inr (.inr ⟨_, List.getElem_mem hi', rfl⟩)⟩
theorem NamesFrom.setNod {s : ByteArray} {k : Krn} {i : Nat} {x : Nod} (h : x.name = noS ∨ x.name = s ∨ ∃ y ∈ k.nodes, y.name = x.name) : NamesFrom s k (setNod k i x) := ⟨rfl, fun y hy => by
 rcases List.mem_or_eq_of_mem_set hy with h1 | h1
 ·exact .inr (.inr ⟨y, h1, rfl⟩)
 ·subst h1; exact h⟩
theorem getD_name (k : Krn) (i : Nat) : (k.nodes.getD i default).name = noS ∨ ∃ y ∈ k.nodes, y.name = (k.nodes.getD i default).name := by
 by_cases hi : i < k.nodes.length
 ·rw [getD_eq hi]; exact .inr ⟨_, List.getElem_mem hi, rfl⟩
 ·rw [List.getD_eq_getElem?_getD, List.getElem?_eq_none (by omega)]; exact .inl rfl
theorem askK_from {s : ByteArray} {k k' : Krn} {u n v : Nat} (h : askK k u n = some (v, k')) : NamesFrom s k k' := by
 unfold askK at h
 split at h
 split at h
 ·cases h; exact NamesFrom.same rfl rfl
 ·cases h
theorem askAll_from {s : ByteArray} : ∀ (l : List UInt8) (k : Krn) (u : Nat), NamesFrom s k (askAll k u l).2
 | [], k, u => NamesFrom.refl s k
 | c :: r, k, u => by
   unfold askAll
   cases h : askK k u c.toNat with
   | none => exact NamesFrom.refl s k
   | some x =>
     obtain ⟨v, k'⟩ := x
     exact (askK_from h).trans (askAll_from r k' u)
theorem do_names (k : Krn) (a : Akt) (ha : a.kind ≠ 1) : NamesFrom a.name k (doK k a).1 := by
 have same : ∀ {k' : Krn}, k'.mods = k.mods → k'.nodes = k.nodes → NamesFrom a.name k k' := fun h1 h2 => NamesFrom.same h1 h2
 have mk : ∀ x : Nod, NamesFrom a.name k (makeK k a.name x).1 := fun x => by
  unfold makeK
  split
  case isFalse => exact NamesFrom.refl _ _
  split
  case isTrue => exact NamesFrom.refl _ _
  split
  case isTrue => exact NamesFrom.refl _ _
  split
  case isTrue => exact NamesFrom.refl _ _
  exact NamesFrom.setNod (.inr (.inl rfl))
 unfold doK
 rw [if_neg ha]
 split
 ·exact mk _
 split
 ·exact mk _
 split
 ·unfold unlinkK
  split
  ·exact NamesFrom.refl _ _
  ·exact (NamesFrom.setNod (.inl rfl)).trans (NamesFrom.tidy _ _)
 split
 case isFalse => exact NamesFrom.refl _ _
 unfold byK
 split
 ·unfold openK
  split
  case isFalse => exact NamesFrom.refl _ _
  split
  case isTrue => exact NamesFrom.refl _ _
  split
  case isTrue => exact NamesFrom.refl _ _
  exact same rfl rfl
 split
 ·unfold pipeK
  simp only
  split
  ·exact NamesFrom.refl _ _
  split
  ·exact NamesFrom.refl _ _
  ·exact same rfl rfl
 split
 ·unfold forkK
  split
  ·exact NamesFrom.refl _ _
  ·exact same rfl rfl
 split
 ·unfold exitK
  exact NamesFrom.trans (k' := { k with procs := k.procs.set a.p.toNat ⟨false, List.replicate 6 default⟩ }) (same rfl rfl) (NamesFrom.tidy _ _)
 simp only
 split
 ·exact NamesFrom.refl _ _
 split
 ·exact NamesFrom.trans (k' := setEnd k a.p.toNat a.n.toNat default) (same rfl rfl) (NamesFrom.tidy _ _)
 split
 ·exact NamesFrom.refl _ _
 split
 ·unfold readK
  simp only
  split
  ·exact NamesFrom.refl _ _
  split
  ·split
   ·exact NamesFrom.refl _ _
   ·exact same rfl rfl
  split
  ·cases h : askK k (k.nodes.getD ((k.procs.getD a.p.toNat default).ends.getD a.n.toNat default).node.toNat default).unit.toNat 256 with
   | none => exact NamesFrom.refl _ _
   | some x =>
     obtain ⟨v, k'⟩ := x
     exact askK_from h
  split
  ·exact NamesFrom.refl _ _
  ·exact same rfl rfl
 ·unfold writeK
  simp only
  split
  ·exact NamesFrom.refl _ _
  split
  ·split
   ·exact NamesFrom.refl _ _
   split
   ·exact NamesFrom.refl _ _
   ·exact same rfl rfl
  split
  ·split
   ·exact askAll_from _ _ _
   ·exact askAll_from _ _ _
  split
  ·exact NamesFrom.refl _ _
  ·refine NamesFrom.trans (NamesFrom.setNod (i := ((k.procs.getD a.p.toNat default).ends.getD a.n.toNat default).node.toNat) (x := { (k.nodes.getD ((k.procs.getD a.p.toNat default).ends.getD a.n.toNat default).node.toNat default) with data := _ }) ?_) (NamesFrom.same rfl rfl)
   rcases getD_name k ((k.procs.getD a.p.toNat default).ends.getD a.n.toNat default).node.toNat with e | e
   ·exact .inl e
   ·exact .inr (.inr e)
def Bare (ns : List ByteArray) (k : Krn) : Prop := k.mods = [] ∧ ∀ x ∈ k.nodes, x.name = noS ∨ x.name ∈ ns
theorem Bare.next {ns : List ByteArray} {k : Krn} (h : Bare ns k) {a : Akt} (ha : a.kind ≠ 1) (hn : a.name = noS ∨ a.name ∈ ns) : Bare ns (doK k a).1 := by
 obtain ⟨h1, h2⟩ := do_names k a ha
 refine ⟨h1.trans h.1, fun x hx => ?_⟩
 rcases h2 x hx with e | e | ⟨y, hy, e⟩
 ·exact .inl e
 ·rw [e]; exact hn
 ·rw [← e]; exact h.2 y hy
theorem Bare.runs {ns : List ByteArray} : ∀ (l : List Akt) {k : Krn}, Bare ns k → (∀ a ∈ l, a.kind ≠ 1 ∧ (a.name = noS ∨ a.name ∈ ns)) → Bare ns (runK k l).1
 | [], _, h, _ => h
 | a :: r, k, h, hl => by
   rw [runK]
   have ha := hl a (by simp)
   split
   ·exact Bare.runs r (h.next ha.1 ha.2) (fun b hb => hl b (by simp [hb]))
   ·exact Bare.runs r h (fun b hb => hl b (by simp [hb]))
theorem newK_bare (ns : List ByteArray) : Bare ns newK := ⟨rfl, fun x hx => .inl (by
 have : x = default := List.eq_of_mem_replicate hx
 rw [this]; rfl)⟩
theorem findK_bare {ns : List ByteArray} {k : Krn} (h : Bare ns k) {s : ByteArray} (h0 : s ≠ noS) (hs : s ∉ ns) : findK k s < 0 := by
 by_cases h1 : findK k s < 0
 ·exact h1
 ·exfalso
  obtain ⟨i, hi, _, _, hn⟩ := findK_pos (k := k) (s := s) (by omega)
  rcases h.2 _ (List.getElem_mem hi) with e | e
  ·exact h0 (hn.symm.trans e)
  ·rw [hn] at e; exact hs e
def gS : ByteArray := ⟨#[103]⟩
def devS : ByteArray := ⟨#[100, 101, 118]⟩
def xS : ByteArray := ⟨#[120]⟩
def zzS : ByteArray := ⟨#[122, 122]⟩
def abcS : ByteArray := ⟨#[97, 98, 99]⟩
def oddActs (kd : Int) : List Akt := [⟨kd, 0, 0, 0, noS, noS⟩, ⟨7, 4, 0, 0, noS, noS⟩, ⟨1, 0, 0, 0, noS, abcS⟩, ⟨3, 0, 0, 0, xS, noS⟩, ⟨4, 0, 0, 0, zzS, noS⟩]
theorem odd_runs {k : Krn} (hk : KOk k) (hb : Bare [fS, gS, devS] k) (kd : Int) (hkd : 12 ≤ kd) : runK k (oddActs kd) = (k, [ansE 3, ansE 6, ansE 5, ansE 6, ansE 6]) := by
 have hc := (kcheck_iff k).2 hk
 have h0 : doE k ⟨kd, 0, 0, 0, noS, noS⟩ = 3 := by
  unfold doE
  rw [if_pos hc, if_pos (.inr (by show 11 < kd; omega))]
 have d1 : doK k ⟨7, 4, 0, 0, noS, noS⟩ = (k, ansE 6) := by
  unfold doK
  rw [if_neg (by simp), if_neg (by simp), if_neg (by simp), if_neg (by simp), if_neg (by simp)]
 have d2 : doK k ⟨1, 0, 0, 0, noS, abcS⟩ = (k, ansE 5) := by
  unfold doK
  rw [if_pos rfl]
  unfold installK
  have : decE abcS.data.toList modCheck = (none, 5) := decE_abc modCheck
  simp only [this]
 have hx : findK k xS < 0 := findK_bare hb (by decide) (by simp only [List.mem_cons, List.not_mem_nil, or_false, not_or]; decide)
 have hz : findK k zzS < 0 := findK_bare hb (by decide) (by simp only [List.mem_cons, List.not_mem_nil, or_false, not_or]; decide)
 have d3 : doK k ⟨3, 0, 0, 0, xS, noS⟩ = (k, ansE 6) := by
  unfold doK
  rw [if_neg (by simp), if_neg (by simp), if_pos rfl]
  unfold makeK
  rw [if_pos (by decide), if_neg (by simp only; omega), if_pos ⟨rfl, .inr (by rw [hb.1]; simp)⟩]
 have d4 : doK k ⟨4, 0, 0, 0, zzS, noS⟩ = (k, ansE 6) := by
  unfold doK
  rw [if_neg (by simp), if_neg (by simp), if_neg (by simp), if_pos rfl]
  unfold unlinkK
  rw [if_pos (.inr hz)]
 unfold oddActs
 rw [runK, if_neg (by rw [h0]; decide), h0, (runK_step hk (by simp) d1).2, (runK_step hk (by simp) d2).2, (runK_step hk (by simp) d3).2, (runK_step hk (by simp) d4).2]
 rfl
end Go.Proofs.YtdjamdbamkhblacDoor
