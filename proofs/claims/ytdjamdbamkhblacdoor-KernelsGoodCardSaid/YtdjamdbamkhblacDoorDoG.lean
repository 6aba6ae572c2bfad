/- The drawn region of kern.Do in which a process acts. No condition. By an AI agent (xdo.py). -/
import Derived.Test.YtdjamdbamkhblacDoorG13
namespace Go.Proofs.YtdjamdbamkhblacDoor
open Go.RowKit
set_option linter.unusedVariables false
set_option linter.unusedSimpArgs false
structure DoJ (w0 : World) (B bw g b4 c4 ba bo p : Nat) (ms : List (Value × Value)) (r : Krn × Ans) (x0 x2 x3 : Int) (x4 x5 : ByteArray) (listed : Array Bool) (W : World) (y53 y54 y55 y56 y57 y58 y59 y60 : Value) : Prop where
 f0 : listed.getD 0 true = true → y53 = .agg #[.pointer (some ⟨g, 0, none⟩)]
 f1 : listed.getD 1 true = true → y54 = .pointer (some ⟨g, 4, none⟩)
 f2 : listed.getD 2 true = true → y55 = .slice (some ⟨b4, 0, none⟩) 4 c4
 f3 : listed.getD 3 true = true → y56 = .pointer (some ⟨ba, 1, none⟩)
 f4 : listed.getD 4 true = true → y57 = .int .i64 (p : Int)
 f5 : listed.getD 5 true = true → y58 = .pointer (some ⟨b4, p * 2, none⟩)
 f6 : listed.getD 6 true = true → y59 = .agg #[.int .i64 x0, .int .i64 (p : Int), .int .i64 x2, .int .i64 x3, .string x4, .string x5]
 f7 : listed.getD 7 true = true → y60 = .agg #[.int .i64 r.2.code, .int .i64 r.2.n, .string r.2.data]
 f8 : listed.getD 8 true = true → ∃ W1, (Fr B w0 W1 ∧ ∃ a' es', KS B W1 g a' r.1 ms es') ∧ W = ((W1.setCell ⟨bo, 0, none⟩ (.int .i64 r.2.code)).setCell ⟨bo, 1, none⟩ (.int .i64 r.2.n)).setCell ⟨bo, 2, none⟩ (.string r.2.data)
 q7_0 : listed.getD 7 true = true → listed.getD 0 true = true
 q7_2 : listed.getD 7 true = true → listed.getD 2 true = true
 q7_4 : listed.getD 7 true = true → listed.getD 4 true = true
 q7_6 : listed.getD 7 true = true → listed.getD 6 true = true
 q5_2 : listed.getD 5 true = true → listed.getD 2 true = true
 q5_4 : listed.getD 5 true = true → listed.getD 4 true = true
 q8_7 : listed.getD 8 true = true → listed.getD 7 true = true
 w : (listed.getD 7 true = false → W = w0) ∧ (listed.getD 7 true = true → listed.getD 8 true = false → (Fr B w0 W ∧ ∃ a' es', KS B W g a' r.1 ms es'))
noncomputable def doByC : Code := ((Tryd.f40.body.bind (regAt 12)).getD .skip)
set_option maxRecDepth 1000000 in
set_option maxHeartbeats 8000000 in
theorem doBy (w0 : World) (B bw g b4 c4 ba bo p : Nat) (ms : List (Value × Value)) (r : Krn × Ans) (x0 x2 x3 : Int) (x4 x5 : ByteArray) {v0 v1 v4 v5 v6 v7 v10 v11 v12 v13 v14 v15 v16 v17 v18 v19 v20 v21 v22 v23 v24 v25 v26 v27 v28 v29 v30 v31 v32 v33 v34 v35 v36 v37 v38 v39 v40 v41 v42 v43 v44 v45 v46 v47 v48 v49 v50 v51 v52 v53 v54 v55 v56 v57 v58 v59 v60 v61 v62 v63 v64 v65 v66 v67 v68 v69 v70 v71 v72 v73 v74 v75 v76 v77 v78 v79 v80 v81 v82 v83 v84 v85 v86 v87 v88 v89 v90 v91 v92 v93 v94 v95 v96 v97 v98 v99 v100 v101 v102 v103 v104 v105 v106 v107 v108 v109 v110 v111 v112 v113 v114 v115 v116 v117 v118 v119 v120 : Value} (wr : World) (Q : Exit → Act → World → Prop) (hw00 : wr.drew = w0) (hlw : bw < w0.heap.size) (hw0 : w0.cell? ⟨bw, 0, none⟩ = some (.pointer (some ⟨g, 0, none⟩))) (hlg : g < w0.heap.size) (hg4 : w0.cell? ⟨g, 4, none⟩ = some (.slice (some ⟨b4, 0, none⟩) 4 c4)) (hla : ba < w0.heap.size) (ha0 : w0.cell? ⟨ba, 0, none⟩ = some (.int .i64 x0)) (ha1 : w0.cell? ⟨ba, 1, none⟩ = some (.int .i64 (p : Int))) (ha2 : w0.cell? ⟨ba, 2, none⟩ = some (.int .i64 x2)) (ha3 : w0.cell? ⟨ba, 3, none⟩ = some (.int .i64 x3)) (ha4 : w0.cell? ⟨ba, 4, none⟩ = some (.string x4)) (ha5 : w0.cell? ⟨ba, 5, none⟩ = some (.string x5)) (hbo : Blk w0 bo 41 #[.int .i64 0, .int .i64 0, .string ⟨#[]⟩]) (hp : p < 4) (hcall : Calls Tryd.prog 81 #[.agg #[.pointer (some ⟨g, 0, none⟩)], .pointer (some ⟨b4, p * 2, none⟩), .agg #[.int .i64 x0, .int .i64 (p : Int), .int .i64 x2, .int .i64 x3, .string x4, .string x5]] w0 (ByPost B w0 g ms r))
  (hQ : ∀ (listed : Array Bool) (W : World) (y53 y54 y55 y56 y57 y58 y59 y60 : Value), (∀ i, i < 9 → listed.getD i true = true) → DoJ w0 B bw g b4 c4 ba bo p ms r x0 x2 x3 x4 x5 listed W y53 y54 y55 y56 y57 y58 y59 y60 → Q .normal ⟨#[v0, v1, .pointer (some ⟨g, 0, none⟩), .pointer (some ⟨ba, 0, none⟩), v4, v5, v6, v7, .pointer (some ⟨bw, 0, none⟩), .pointer (some ⟨bo, 0, none⟩), v10, v11, v12, v13, v14, v15, v16, v17, v18, v19, v20, v21, v22, v23, v24, v25, v26, v27, v28, v29, v30, v31, v32, v33, v34, v35, v36, v37, v38, v39, v40, v41, v42, v43, v44, v45, v46, v47, v48, v49, v50, v51, v52, y53, y54, y55, y56, y57, y58, y59, y60, v61, v62, v63, v64, v65, v66, v67, v68, v69, v70, v71, v72, v73, v74, v75, v76, v77, v78, v79, v80, v81, v82, v83, v84, v85, v86, v87, v88, v89, v90, v91, v92, v93, v94, v95, v96, v97, v98, v99, v100, v101, v102, v103, v104, v105, v106, v107, v108, v109, v110, v111, v112, v113, v114, v115, v116, v117, v118, v119, v120], []⟩ W) :
  Code.wp Tryd.prog doByC Q ⟨#[v0, v1, .pointer (some ⟨g, 0, none⟩), .pointer (some ⟨ba, 0, none⟩), v4, v5, v6, v7, .pointer (some ⟨bw, 0, none⟩), .pointer (some ⟨bo, 0, none⟩), v10, v11, v12, v13, v14, v15, v16, v17, v18, v19, v20, v21, v22, v23, v24, v25, v26, v27, v28, v29, v30, v31, v32, v33, v34, v35, v36, v37, v38, v39, v40, v41, v42, v43, v44, v45, v46, v47, v48, v49, v50, v51, v52, v53, v54, v55, v56, v57, v58, v59, v60, v61, v62, v63, v64, v65, v66, v67, v68, v69, v70, v71, v72, v73, v74, v75, v76, v77, v78, v79, v80, v81, v82, v83, v84, v85, v86, v87, v88, v89, v90, v91, v92, v93, v94, v95, v96, v97, v98, v99, v100, v101, v102, v103, v104, v105, v106, v107, v108, v109, v110, v111, v112, v113, v114, v115, v116, v117, v118, v119, v120], []⟩ wr := by
 have HQ := Lib.hid hQ
 clear hQ
 conv => arg 2; whnf
 refine wp_region_invB (fun listed a W => ∃ y53 y54 y55 y56 y57 y58 y59 y60, DoJ w0 B bw g b4 c4 ba bo p ms r x0 x2 x3 x4 x5 listed W y53 y54 y55 y56 y57 y58 y59 y60 ∧ a = ⟨#[v0, v1, .pointer (some ⟨g, 0, none⟩), .pointer (some ⟨ba, 0, none⟩), v4, v5, v6, v7, .pointer (some ⟨bw, 0, none⟩), .pointer (some ⟨bo, 0, none⟩), v10, v11, v12, v13, v14, v15, v16, v17, v18, v19, v20, v21, v22, v23, v24, v25, v26, v27, v28, v29, v30, v31, v32, v33, v34, v35, v36, v37, v38, v39, v40, v41, v42, v43, v44, v45, v46, v47, v48, v49, v50, v51, v52, y53, y54, y55, y56, y57, y58, y59, y60, v61, v62, v63, v64, v65, v66, v67, v68, v69, v70, v71, v72, v73, v74, v75, v76, v77, v78, v79, v80, v81, v82, v83, v84, v85, v86, v87, v88, v89, v90, v91, v92, v93, v94, v95, v96, v97, v98, v99, v100, v101, v102, v103, v104, v105, v106, v107, v108, v109, v110, v111, v112, v113, v114, v115, v116, v117, v118, v119, v120], []⟩) (by kernel_rfl) (ord_ofB (by kernel_rfl)) ?start ?step ?fin
 case start => exact ⟨_, _, _, _, _, _, _, _, ⟨fun h => absurd h (by decide), fun h => absurd h (by decide), fun h => absurd h (by decide), fun h => absurd h (by decide), fun h => absurd h (by decide), fun h => absurd h (by decide), fun h => absurd h (by decide), fun h => absurd h (by decide), fun h => absurd h (by decide), fun h => absurd h (by decide), fun h => absurd h (by decide), fun h => absurd h (by decide), fun h => absurd h (by decide), fun h => absurd h (by decide), fun h => absurd h (by decide), fun h => absurd h (by decide), ⟨fun _ => hw00, fun h => absurd h (by decide)⟩⟩, rfl⟩
 case step =>
  intro i o ho listed a W hl haf hI K hK
  obtain ⟨y53, y54, y55, y56, y57, y58, y59, y60, hJ, rfl⟩ := hI
  have hi : i < 9 := (Array.getElem?_eq_some_iff.1 ho).1
  have h16 : i = 0 ∨ i = 1 ∨ i = 2 ∨ i = 3 ∨ i = 4 ∨ i = 5 ∨ i = 6 ∨ i = 7 ∨ i = 8 := by omega
  rcases h16 with rfl | rfl | rfl | rfl | rfl | rfl | rfl | rfl | rfl
  ·have ho' := Option.some.inj ho
   subst ho'
   have h7 : listed.getD 7 true = false := by rw [← Bool.not_eq_true]; intro e; have e := hJ.q7_0 e; rw [hl] at e; cases e
   obtain rfl : W = w0 := hJ.w.1 h7
   have HJ := Lib.hid hJ
   clear hJ haf
   try unfold pt
   go_simp
   have hJ := HJ.out
   exact hK _ _ ⟨_, _, _, _, _, _, _, _, ⟨fun _ => rfl, fun x => hJ.f1 (upneR (by decide) x), fun x => hJ.f2 (upneR (by decide) x), fun x => hJ.f3 (upneR (by decide) x), fun x => hJ.f4 (upneR (by decide) x), fun x => hJ.f5 (upneR (by decide) x), fun x => hJ.f6 (upneR (by decide) x), fun x => hJ.f7 (upneR (by decide) x), fun x => hJ.f8 (upneR (by decide) x), fun _ => upselfR, fun x => by rw [upeqR (by decide)]; exact hJ.q7_2 (upneR (by decide) x), fun x => by rw [upeqR (by decide)]; exact hJ.q7_4 (upneR (by decide) x), fun x => by rw [upeqR (by decide)]; exact hJ.q7_6 (upneR (by decide) x), fun x => by rw [upeqR (by decide)]; exact hJ.q5_2 (upneR (by decide) x), fun x => by rw [upeqR (by decide)]; exact hJ.q5_4 (upneR (by decide) x), fun x => by rw [upeqR (by decide)]; exact hJ.q8_7 (upneR (by decide) x), ⟨fun h => hJ.w.1 (by rw [upeqR (by decide)] at h; exact h), fun h h' => hJ.w.2 (by rw [upeqR (by decide)] at h; exact h) (by rw [upeqR (by decide)] at h'; exact h')⟩⟩, rfl⟩
  ·have ho' := Option.some.inj ho
   subst ho'
   have HJ := Lib.hid hJ
   clear hJ haf
   try unfold pt
   go_simp
   have hJ := HJ.out
   exact hK _ _ ⟨_, _, _, _, _, _, _, _, ⟨fun x => hJ.f0 (upneR (by decide) x), fun _ => rfl, fun x => hJ.f2 (upneR (by decide) x), fun x => hJ.f3 (upneR (by decide) x), fun x => hJ.f4 (upneR (by decide) x), fun x => hJ.f5 (upneR (by decide) x), fun x => hJ.f6 (upneR (by decide) x), fun x => hJ.f7 (upneR (by decide) x), fun x => hJ.f8 (upneR (by decide) x), fun x => by rw [upeqR (by decide)]; exact hJ.q7_0 (upneR (by decide) x), fun x => by rw [upeqR (by decide)]; exact hJ.q7_2 (upneR (by decide) x), fun x => by rw [upeqR (by decide)]; exact hJ.q7_4 (upneR (by decide) x), fun x => by rw [upeqR (by decide)]; exact hJ.q7_6 (upneR (by decide) x), fun x => by rw [upeqR (by decide)]; exact hJ.q5_2 (upneR (by decide) x), fun x => by rw [upeqR (by decide)]; exact hJ.q5_4 (upneR (by decide) x), fun x => by rw [upeqR (by decide)]; exact hJ.q8_7 (upneR (by decide) x), ⟨fun h => hJ.w.1 (by rw [upeqR (by decide)] at h; exact h), fun h h' => hJ.w.2 (by rw [upeqR (by decide)] at h; exact h) (by rw [upeqR (by decide)] at h'; exact h')⟩⟩, rfl⟩
  ·have ho' := Option.some.inj ho
   subst ho'
   simp [Region.binds] at haf
   have p1 : listed.getD 1 true = true := waitsR (by simp [haf])
   obtain rfl := hJ.f1 p1
   have h7 : listed.getD 7 true = false := by rw [← Bool.not_eq_true]; intro e; have e := hJ.q7_2 e; rw [hl] at e; cases e
   obtain rfl : W = w0 := hJ.w.1 h7
   have HJ := Lib.hid hJ
   clear hJ haf
   try unfold pt
   go_simp
   have hJ := HJ.out
   exact hK _ _ ⟨_, _, _, _, _, _, _, _, ⟨fun x => hJ.f0 (upneR (by decide) x), fun x => hJ.f1 (upneR (by decide) x), fun _ => rfl, fun x => hJ.f3 (upneR (by decide) x), fun x => hJ.f4 (upneR (by decide) x), fun x => hJ.f5 (upneR (by decide) x), fun x => hJ.f6 (upneR (by decide) x), fun x => hJ.f7 (upneR (by decide) x), fun x => hJ.f8 (upneR (by decide) x), fun x => by rw [upeqR (by decide)]; exact hJ.q7_0 (upneR (by decide) x), fun _ => upselfR, fun x => by rw [upeqR (by decide)]; exact hJ.q7_4 (upneR (by decide) x), fun x => by rw [upeqR (by decide)]; exact hJ.q7_6 (upneR (by decide) x), fun _ => upselfR, fun x => by rw [upeqR (by decide)]; exact hJ.q5_4 (upneR (by decide) x), fun x => by rw [upeqR (by decide)]; exact hJ.q8_7 (upneR (by decide) x), ⟨fun h => hJ.w.1 (by rw [upeqR (by decide)] at h; exact h), fun h h' => hJ.w.2 (by rw [upeqR (by decide)] at h; exact h) (by rw [upeqR (by decide)] at h'; exact h')⟩⟩, rfl⟩
  ·have ho' := Option.some.inj ho
   subst ho'
   have HJ := Lib.hid hJ
   clear hJ haf
   try unfold pt
   go_simp
   have hJ := HJ.out
   exact hK _ _ ⟨_, _, _, _, _, _, _, _, ⟨fun x => hJ.f0 (upneR (by decide) x), fun x => hJ.f1 (upneR (by decide) x), fun x => hJ.f2 (upneR (by decide) x), fun _ => rfl, fun x => hJ.f4 (upneR (by decide) x), fun x => hJ.f5 (upneR (by decide) x), fun x => hJ.f6 (upneR (by decide) x), fun x => hJ.f7 (upneR (by decide) x), fun x => hJ.f8 (upneR (by decide) x), fun x => by rw [upeqR (by decide)]; exact hJ.q7_0 (upneR (by decide) x), fun x => by rw [upeqR (by decide)]; exact hJ.q7_2 (upneR (by decide) x), fun x => by rw [upeqR (by decide)]; exact hJ.q7_4 (upneR (by decide) x), fun x => by rw [upeqR (by decide)]; exact hJ.q7_6 (upneR (by decide) x), fun x => by rw [upeqR (by decide)]; exact hJ.q5_2 (upneR (by decide) x), fun x => by rw [upeqR (by decide)]; exact hJ.q5_4 (upneR (by decide) x), fun x => by rw [upeqR (by decide)]; exact hJ.q8_7 (upneR (by decide) x), ⟨fun h => hJ.w.1 (by rw [upeqR (by decide)] at h; exact h), fun h h' => hJ.w.2 (by rw [upeqR (by decide)] at h; exact h) (by rw [upeqR (by decide)] at h'; exact h')⟩⟩, rfl⟩
  ·have ho' := Option.some.inj ho
   subst ho'
   simp [Region.binds] at haf
   have p3 : listed.getD 3 true = true := waitsR (by simp [haf])
   obtain rfl := hJ.f3 p3
   have h7 : listed.getD 7 true = false := by rw [← Bool.not_eq_true]; intro e; have e := hJ.q7_4 e; rw [hl] at e; cases e
   obtain rfl : W = w0 := hJ.w.1 h7
   have HJ := Lib.hid hJ
   clear hJ haf
   try unfold pt
   go_simp
   have hJ := HJ.out
   exact hK _ _ ⟨_, _, _, _, _, _, _, _, ⟨fun x => hJ.f0 (upneR (by decide) x), fun x => hJ.f1 (upneR (by decide) x), fun x => hJ.f2 (upneR (by decide) x), fun x => hJ.f3 (upneR (by decide) x), fun _ => rfl, fun x => hJ.f5 (upneR (by decide) x), fun x => hJ.f6 (upneR (by decide) x), fun x => hJ.f7 (upneR (by decide) x), fun x => hJ.f8 (upneR (by decide) x), fun x => by rw [upeqR (by decide)]; exact hJ.q7_0 (upneR (by decide) x), fun x => by rw [upeqR (by decide)]; exact hJ.q7_2 (upneR (by decide) x), fun _ => upselfR, fun x => by rw [upeqR (by decide)]; exact hJ.q7_6 (upneR (by decide) x), fun x => by rw [upeqR (by decide)]; exact hJ.q5_2 (upneR (by decide) x), fun _ => upselfR, fun x => by rw [upeqR (by decide)]; exact hJ.q8_7 (upneR (by decide) x), ⟨fun h => hJ.w.1 (by rw [upeqR (by decide)] at h; exact h), fun h h' => hJ.w.2 (by rw [upeqR (by decide)] at h; exact h) (by rw [upeqR (by decide)] at h'; exact h')⟩⟩, rfl⟩
  ·have ho' := Option.some.inj ho
   subst ho'
   simp [Region.binds] at haf
   have p2 : listed.getD 2 true = true := waitsR (by simp [haf])
   have p4 : listed.getD 4 true = true := waitsR (by simp [haf])
   obtain rfl := hJ.f2 p2
   obtain rfl := hJ.f4 p4
   have hp4 : (p : Int) < 4 := by omega
   have HJ := Lib.hid hJ
   clear hJ haf
   try unfold pt
   go_simp
   have hJ := HJ.out
   exact hK _ _ ⟨_, _, _, _, _, _, _, _, ⟨fun x => hJ.f0 (upneR (by decide) x), fun x => hJ.f1 (upneR (by decide) x), fun x => hJ.f2 (upneR (by decide) x), fun x => hJ.f3 (upneR (by decide) x), fun x => hJ.f4 (upneR (by decide) x), fun _ => rfl, fun x => hJ.f6 (upneR (by decide) x), fun x => hJ.f7 (upneR (by decide) x), fun x => hJ.f8 (upneR (by decide) x), fun x => by rw [upeqR (by decide)]; exact hJ.q7_0 (upneR (by decide) x), fun x => by rw [upeqR (by decide)]; exact hJ.q7_2 (upneR (by decide) x), fun x => by rw [upeqR (by decide)]; exact hJ.q7_4 (upneR (by decide) x), fun x => by rw [upeqR (by decide)]; exact hJ.q7_6 (upneR (by decide) x), fun _ => by rw [upeqR (by decide)]; exact p2, fun _ => by rw [upeqR (by decide)]; exact p4, fun x => by rw [upeqR (by decide)]; exact hJ.q8_7 (upneR (by decide) x), ⟨fun h => hJ.w.1 (by rw [upeqR (by decide)] at h; exact h), fun h h' => hJ.w.2 (by rw [upeqR (by decide)] at h; exact h) (by rw [upeqR (by decide)] at h'; exact h')⟩⟩, rfl⟩
  ·have ho' := Option.some.inj ho
   subst ho'
   have h7 : listed.getD 7 true = false := by rw [← Bool.not_eq_true]; intro e; have e := hJ.q7_6 e; rw [hl] at e; cases e
   obtain rfl : W = w0 := hJ.w.1 h7
   have HJ := Lib.hid hJ
   clear hJ haf
   try unfold pt
   go_simp
   have hJ := HJ.out
   exact hK _ _ ⟨_, _, _, _, _, _, _, _, ⟨fun x => hJ.f0 (upneR (by decide) x), fun x => hJ.f1 (upneR (by decide) x), fun x => hJ.f2 (upneR (by decide) x), fun x => hJ.f3 (upneR (by decide) x), fun x => hJ.f4 (upneR (by decide) x), fun x => hJ.f5 (upneR (by decide) x), fun _ => rfl, fun x => hJ.f7 (upneR (by decide) x), fun x => hJ.f8 (upneR (by decide) x), fun x => by rw [upeqR (by decide)]; exact hJ.q7_0 (upneR (by decide) x), fun x => by rw [upeqR (by decide)]; exact hJ.q7_2 (upneR (by decide) x), fun x => by rw [upeqR (by decide)]; exact hJ.q7_4 (upneR (by decide) x), fun _ => upselfR, fun x => by rw [upeqR (by decide)]; exact hJ.q5_2 (upneR (by decide) x), fun x => by rw [upeqR (by decide)]; exact hJ.q5_4 (upneR (by decide) x), fun x => by rw [upeqR (by decide)]; exact hJ.q8_7 (upneR (by decide) x), ⟨fun h => hJ.w.1 (by rw [upeqR (by decide)] at h; exact h), fun h h' => hJ.w.2 (by rw [upeqR (by decide)] at h; exact h) (by rw [upeqR (by decide)] at h'; exact h')⟩⟩, rfl⟩
  ·have ho' := Option.some.inj ho
   subst ho'
   simp [Region.binds] at haf
   have p0 : listed.getD 0 true = true := waitsR (by simp [haf])
   have p5 : listed.getD 5 true = true := waitsR (by simp [haf])
   have p6 : listed.getD 6 true = true := waitsR (by simp [haf])
   obtain rfl := hJ.f0 p0
   obtain rfl := hJ.f5 p5
   obtain rfl := hJ.f6 p6
   obtain rfl : W = w0 := hJ.w.1 hl
   have p2 := hJ.q5_2 p5
   have p4 := hJ.q5_4 p5
   have HJ := Lib.hid hJ
   clear hJ haf
   try unfold pt
   go_simp
   go_at_call 81
   refine hcall.mono ?_
   rintro e' w2 ⟨rfl, hF, a', es', hKS⟩
   have hJ := HJ.out
   exact hK _ _ ⟨_, _, _, _, _, _, _, _, ⟨fun x => hJ.f0 (upneR (by decide) x), fun x => hJ.f1 (upneR (by decide) x), fun x => hJ.f2 (upneR (by decide) x), fun x => hJ.f3 (upneR (by decide) x), fun x => hJ.f4 (upneR (by decide) x), fun x => hJ.f5 (upneR (by decide) x), fun x => hJ.f6 (upneR (by decide) x), fun _ => rfl, fun x => by have e := hJ.q8_7 (upneR (by decide) x); rw [hl] at e; exact absurd e (by decide), fun _ => by rw [upeqR (by decide)]; exact p0, fun _ => by rw [upeqR (by decide)]; exact p2, fun _ => by rw [upeqR (by decide)]; exact p4, fun _ => by rw [upeqR (by decide)]; exact p6, fun x => by rw [upeqR (by decide)]; exact hJ.q5_2 (upneR (by decide) x), fun x => by rw [upeqR (by decide)]; exact hJ.q5_4 (upneR (by decide) x), fun _ => upselfR, ⟨fun h => absurd h (by rw [upselfR]; decide), fun _ _ => ⟨hF, a', es', hKS⟩⟩⟩, rfl⟩
  ·have ho' := Option.some.inj ho
   subst ho'
   simp [Region.binds] at haf
   have p7 : listed.getD 7 true = true := waitsR (by simp [haf])
   obtain rfl := hJ.f7 p7
   obtain ⟨hF, a', es', hKS⟩ := hJ.w.2 p7 hl
   have hbb := hF.blk hbo (by decide)
   have m0 := hbb.cell 0
   have m1 := hbb.cell 1
   have m2 := hbb.cell 2
   have fz0 := hbb.frozen 0
   have fz1 := hbb.frozen 1
   have fz2 := hbb.frozen 2
   have bl := hbb.lt
   simp at m0 m1 m2
   have HJ := Lib.hid hJ
   clear hJ haf
   try unfold pt
   go_simp
   have hJ := HJ.out
   exact hK _ _ ⟨_, _, _, _, _, _, _, _, ⟨fun x => hJ.f0 (upneR (by decide) x), fun x => hJ.f1 (upneR (by decide) x), fun x => hJ.f2 (upneR (by decide) x), fun x => hJ.f3 (upneR (by decide) x), fun x => hJ.f4 (upneR (by decide) x), fun x => hJ.f5 (upneR (by decide) x), fun x => hJ.f6 (upneR (by decide) x), fun x => hJ.f7 (upneR (by decide) x), fun _ => ⟨W, ⟨hF, a', es', hKS⟩, rfl⟩, fun x => by rw [upeqR (by decide)]; exact hJ.q7_0 (upneR (by decide) x), fun x => by rw [upeqR (by decide)]; exact hJ.q7_2 (upneR (by decide) x), fun x => by rw [upeqR (by decide)]; exact hJ.q7_4 (upneR (by decide) x), fun x => by rw [upeqR (by decide)]; exact hJ.q7_6 (upneR (by decide) x), fun x => by rw [upeqR (by decide)]; exact hJ.q5_2 (upneR (by decide) x), fun x => by rw [upeqR (by decide)]; exact hJ.q5_4 (upneR (by decide) x), fun _ => by rw [upeqR (by decide)]; exact p7, ⟨fun h => (by rw [upeqR (by decide), p7] at h; cases h), fun _ h => absurd h (by rw [upselfR]; decide)⟩⟩, rfl⟩
 case fin =>
  intro listed a W hall hI
  obtain ⟨y53, y54, y55, y56, y57, y58, y59, y60, hJ, rfl⟩ := hI
  exact HQ.out listed W _ _ _ _ _ _ _ _ hall hJ
end Go.Proofs.YtdjamdbamkhblacDoor
