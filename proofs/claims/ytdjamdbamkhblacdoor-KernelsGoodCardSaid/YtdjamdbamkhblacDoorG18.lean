/- The region of the kernel's read that loads the node. No condition. By an AI agent (xread.py). The walks of two bytes of a word and of the seal, and of the reference's seal. No condition. -/
import Derived.Test.YtdjamdbamkhblacDoorG17
import Derived.Test.YtdjamdbamkhblacDoorG04
import Derived.Test.YtdjamdbamkhblacDoorG02
import Derived.Laws.BytesArg
namespace Go.Proofs.YtdjamdbamkhblacDoor
open Go.RowKit
set_option linter.unusedVariables false
set_option linter.unusedSimpArgs false
theorem layNod {W : World} {B s : Nat} {c0 c1 c2 c3 : Value} (hB : B ≤ s) (h : Blk W s 52 #[c0, c1, c2, c3]) (v0 v1 v2 v3 : Value) :
  Blk ((((W.setCell ⟨s, 0, none⟩ v0).setCell ⟨s, 1, none⟩ v1).setCell ⟨s, 2, none⟩ v2).setCell ⟨s, 3, none⟩ v3) s 52 #[v0, v1, v2, v3] ∧ Below B W ((((W.setCell ⟨s, 0, none⟩ v0).setCell ⟨s, 1, none⟩ v1).setCell ⟨s, 2, none⟩ v2).setCell ⟨s, 3, none⟩ v3) := by
 have h0 : Blk (W.setCell ⟨s, 0, none⟩ v0) s 52 #[v0, c1, c2, c3] := h.set_ 0 v0
 have h1 : Blk ((W.setCell ⟨s, 0, none⟩ v0).setCell ⟨s, 1, none⟩ v1) s 52 #[v0, v1, c2, c3] := h0.set_ 1 v1
 have h2 : Blk (((W.setCell ⟨s, 0, none⟩ v0).setCell ⟨s, 1, none⟩ v1).setCell ⟨s, 2, none⟩ v2) s 52 #[v0, v1, v2, c3] := h1.set_ 2 v2
 refine ⟨h2.set_ 3 v3, ?_⟩
 exact (((set_below (w := W) hB 0 v0).setCell (p := ⟨s, 1, none⟩) hB v1).setCell (p := ⟨s, 2, none⟩) hB v2).setCell (p := ⟨s, 3, none⟩) hB v3
structure ReadJ (w0 : World) (bw g b2 c2 nn be i nd : Nat) (y : Nod) (listed : Array Bool) (W : World) (y9 y68 y69 y70 y71 y72 y73 y74 y75 y76 y77 y78 : Value) : Prop where
 f0 : listed.getD 0 true = true → y68 = .pointer (some ⟨bw, 0, none⟩)
 f1 : listed.getD 1 true = true → y69 = .pointer (some ⟨g, 0, none⟩)
 f2 : listed.getD 2 true = true → y70 = .pointer (some ⟨g, 0, none⟩)
 f3 : listed.getD 3 true = true → y71 = .pointer (some ⟨g, 2, none⟩)
 f4 : listed.getD 4 true = true → y72 = .slice (some ⟨b2, 0, none⟩) nn c2
 f5 : listed.getD 5 true = true → y73 = .pointer (some ⟨be, i * 3, none⟩)
 f6 : listed.getD 6 true = true → y74 = .pointer (some ⟨be, i * 3, none⟩)
 f7 : listed.getD 7 true = true → y75 = .pointer (some ⟨be, i * 3 + 1, none⟩)
 f8 : listed.getD 8 true = true → y76 = .int .i64 (nd : Int)
 f9 : listed.getD 9 true = true → y77 = .pointer (some ⟨b2, nd * 4, none⟩)
 f10 : listed.getD 10 true = true → y78 = .agg #[.string y.name, .int .i64 y.kind, .string y.data, .int .i64 y.unit]
 f11 : listed.getD 11 true = true → ∃ s : Nat, y9 = .pointer (some ⟨s, 0, none⟩) ∧ w0.heap.size ≤ s ∧ (listed.getD 12 true = false → Blk W s 52 #[.string ⟨#[]⟩, .int .i64 0, .string ⟨#[]⟩, .int .i64 0])
 f12 : listed.getD 12 true = true → ∃ s : Nat, y9 = .pointer (some ⟨s, 0, none⟩) ∧ w0.heap.size ≤ s ∧ Blk W s 52 #[.string y.name, .int .i64 y.kind, .string y.data, .int .i64 y.unit]
 q12_11 : listed.getD 12 true = true → listed.getD 11 true = true
 w : Below w0.heap.size w0 W
noncomputable def readRegC : Code := ((Tryd.f121.body.bind (regAt 12)).getD .skip)
set_option maxRecDepth 1000000 in
set_option maxHeartbeats 8000000 in
theorem readReg (w0 : World) (bw g b2 c2 nn be i nd : Nat) (y : Nod) {v0 v2 v4 v5 v6 v7 v8 v9 v10 v11 v12 v13 v14 v15 v16 v17 v18 v19 v20 v21 v22 v23 v24 v25 v26 v27 v28 v29 v30 v31 v32 v33 v34 v35 v36 v37 v38 v39 v40 v41 v42 v43 v44 v45 v46 v47 v48 v49 v50 v51 v52 v53 v54 v55 v56 v57 v58 v59 v60 v61 v62 v63 v64 v65 v66 v67 v68 v69 v70 v71 v72 v73 v74 v75 v76 v77 v78 v79 v80 v81 v82 v83 v84 v85 v86 v87 v88 v89 v90 v91 v92 v93 v94 v95 v96 v97 v98 v99 v100 v101 v102 v103 v104 v105 v106 v107 v108 v109 v110 v111 v112 v113 v114 v115 v116 v117 v118 v119 v120 v121 v122 v123 v124 v125 v126 v127 v128 v129 : Value} (wr : World) (Q : Exit → Act → World → Prop) (hbs : Below w0.heap.size w0 wr.drew) (hlw : bw < w0.heap.size) (hw0 : w0.cell? ⟨bw, 0, none⟩ = some (.pointer (some ⟨g, 0, none⟩))) (hlg : g < w0.heap.size) (hg2 : w0.cell? ⟨g, 2, none⟩ = some (.slice (some ⟨b2, 0, none⟩) nn c2)) (hle : be < w0.heap.size) (he1 : w0.cell? ⟨be, i * 3 + 1, none⟩ = some (.int .i64 (nd : Int))) (hlb : b2 < w0.heap.size) (hn0 : w0.cell? ⟨b2, nd * 4, none⟩ = some (.string y.name)) (hn1 : w0.cell? ⟨b2, nd * 4 + 1, none⟩ = some (.int .i64 y.kind)) (hn2 : w0.cell? ⟨b2, nd * 4 + 2, none⟩ = some (.string y.data)) (hn3 : w0.cell? ⟨b2, nd * 4 + 3, none⟩ = some (.int .i64 y.unit)) (hnd : nd < nn)
  (hQ : ∀ (listed : Array Bool) (W : World) (y9 y68 y69 y70 y71 y72 y73 y74 y75 y76 y77 y78 : Value), (∀ i, i < 13 → listed.getD i true = true) → ReadJ w0 bw g b2 c2 nn be i nd y listed W y9 y68 y69 y70 y71 y72 y73 y74 y75 y76 y77 y78 → Q .normal ⟨#[v0, .pointer (some ⟨be, i * 3, none⟩), v2, .pointer (some ⟨bw, 0, none⟩), v4, v5, v6, v7, v8, y9, v10, v11, v12, v13, v14, v15, v16, v17, v18, v19, v20, v21, v22, v23, v24, v25, v26, v27, v28, v29, v30, v31, v32, v33, v34, v35, v36, v37, v38, v39, v40, v41, v42, v43, v44, v45, v46, v47, v48, v49, v50, v51, v52, v53, v54, v55, v56, v57, v58, v59, v60, v61, v62, v63, v64, v65, v66, v67, y68, y69, y70, y71, y72, y73, y74, y75, y76, y77, y78, v79, v80, v81, v82, v83, v84, v85, v86, v87, v88, v89, v90, v91, v92, v93, v94, v95, v96, v97, v98, v99, v100, v101, v102, v103, v104, v105, v106, v107, v108, v109, v110, v111, v112, v113, v114, v115, v116, v117, v118, v119, v120, v121, v122, v123, v124, v125, v126, v127, v128, v129], []⟩ W) :
  Code.wp Tryd.prog readRegC Q ⟨#[v0, .pointer (some ⟨be, i * 3, none⟩), v2, .pointer (some ⟨bw, 0, none⟩), v4, v5, v6, v7, v8, v9, v10, v11, v12, v13, v14, v15, v16, v17, v18, v19, v20, v21, v22, v23, v24, v25, v26, v27, v28, v29, v30, v31, v32, v33, v34, v35, v36, v37, v38, v39, v40, v41, v42, v43, v44, v45, v46, v47, v48, v49, v50, v51, v52, v53, v54, v55, v56, v57, v58, v59, v60, v61, v62, v63, v64, v65, v66, v67, v68, v69, v70, v71, v72, v73, v74, v75, v76, v77, v78, v79, v80, v81, v82, v83, v84, v85, v86, v87, v88, v89, v90, v91, v92, v93, v94, v95, v96, v97, v98, v99, v100, v101, v102, v103, v104, v105, v106, v107, v108, v109, v110, v111, v112, v113, v114, v115, v116, v117, v118, v119, v120, v121, v122, v123, v124, v125, v126, v127, v128, v129], []⟩ wr := by
 have HQ := Lib.hid hQ
 clear hQ
 conv => arg 2; whnf
 refine wp_region_inv (fun listed a W => ∃ y9 y68 y69 y70 y71 y72 y73 y74 y75 y76 y77 y78, ReadJ w0 bw g b2 c2 nn be i nd y listed W y9 y68 y69 y70 y71 y72 y73 y74 y75 y76 y77 y78 ∧ a = ⟨#[v0, .pointer (some ⟨be, i * 3, none⟩), v2, .pointer (some ⟨bw, 0, none⟩), v4, v5, v6, v7, v8, y9, v10, v11, v12, v13, v14, v15, v16, v17, v18, v19, v20, v21, v22, v23, v24, v25, v26, v27, v28, v29, v30, v31, v32, v33, v34, v35, v36, v37, v38, v39, v40, v41, v42, v43, v44, v45, v46, v47, v48, v49, v50, v51, v52, v53, v54, v55, v56, v57, v58, v59, v60, v61, v62, v63, v64, v65, v66, v67, y68, y69, y70, y71, y72, y73, y74, y75, y76, y77, y78, v79, v80, v81, v82, v83, v84, v85, v86, v87, v88, v89, v90, v91, v92, v93, v94, v95, v96, v97, v98, v99, v100, v101, v102, v103, v104, v105, v106, v107, v108, v109, v110, v111, v112, v113, v114, v115, v116, v117, v118, v119, v120, v121, v122, v123, v124, v125, v126, v127, v128, v129], []⟩) (by kernel_rfl) (ord_of (by kernel_rfl)) ?start ?step ?fin
 case start => exact ⟨_, _, _, _, _, _, _, _, _, _, _, _, ⟨fun h => absurd h (by decide), fun h => absurd h (by decide), fun h => absurd h (by decide), fun h => absurd h (by decide), fun h => absurd h (by decide), fun h => absurd h (by decide), fun h => absurd h (by decide), fun h => absurd h (by decide), fun h => absurd h (by decide), fun h => absurd h (by decide), fun h => absurd h (by decide), fun h => absurd h (by decide), fun h => absurd h (by decide), fun h => absurd h (by decide), hbs⟩, rfl⟩
 case step =>
  intro i o ho listed a W hl haf hI K hK
  obtain ⟨y9, y68, y69, y70, y71, y72, y73, y74, y75, y76, y77, y78, hJ, rfl⟩ := hI
  have hi : i < 13 := (Array.getElem?_eq_some_iff.1 ho).1
  have h16 : i = 0 ∨ i = 1 ∨ i = 2 ∨ i = 3 ∨ i = 4 ∨ i = 5 ∨ i = 6 ∨ i = 7 ∨ i = 8 ∨ i = 9 ∨ i = 10 ∨ i = 11 ∨ i = 12 := by omega
  rcases h16 with rfl | rfl | rfl | rfl | rfl | rfl | rfl | rfl | rfl | rfl | rfl | rfl | rfl
  ·have ho' := Option.some.inj ho
   subst ho'
   have HJ := Lib.hid hJ
   clear hJ haf
   try unfold pt
   go_simp
   have hJ := HJ.out
   exact hK _ _ ⟨_, _, _, _, _, _, _, _, _, _, _, _, ⟨fun _ => rfl, fun x => hJ.f1 (upneR (by decide) x), fun x => hJ.f2 (upneR (by decide) x), fun x => hJ.f3 (upneR (by decide) x), fun x => hJ.f4 (upneR (by decide) x), fun x => hJ.f5 (upneR (by decide) x), fun x => hJ.f6 (upneR (by decide) x), fun x => hJ.f7 (upneR (by decide) x), fun x => hJ.f8 (upneR (by decide) x), fun x => hJ.f9 (upneR (by decide) x), fun x => hJ.f10 (upneR (by decide) x), fun x => by obtain ⟨s, e1, e2⟩ := hJ.f11 (upneR (by decide) x); exact ⟨s, e1, ⟨e2.1, fun e => e2.2 (by rw [upeqR (by decide)] at e; exact e)⟩⟩, fun x => hJ.f12 (upneR (by decide) x), fun x => by rw [upeqR (by decide)]; exact hJ.q12_11 (upneR (by decide) x), hJ.w⟩, rfl⟩
  ·have ho' := Option.some.inj ho
   subst ho'
   simp [Region.binds] at haf
   have p0 : listed.getD 0 true = true := waitsR (by simp [haf])
   obtain rfl := hJ.f0 p0
   have e1 := (hJ.w.cell (p := ⟨bw, 0, none⟩) hlw).trans hw0
   have HJ := Lib.hid hJ
   clear hJ haf
   try unfold pt
   go_simp
   have hJ := HJ.out
   exact hK _ _ ⟨_, _, _, _, _, _, _, _, _, _, _, _, ⟨fun x => hJ.f0 (upneR (by decide) x), fun _ => rfl, fun x => hJ.f2 (upneR (by decide) x), fun x => hJ.f3 (upneR (by decide) x), fun x => hJ.f4 (upneR (by decide) x), fun x => hJ.f5 (upneR (by decide) x), fun x => hJ.f6 (upneR (by decide) x), fun x => hJ.f7 (upneR (by decide) x), fun x => hJ.f8 (upneR (by decide) x), fun x => hJ.f9 (upneR (by decide) x), fun x => hJ.f10 (upneR (by decide) x), fun x => by obtain ⟨s, e1, e2⟩ := hJ.f11 (upneR (by decide) x); exact ⟨s, e1, ⟨e2.1, fun e => e2.2 (by rw [upeqR (by decide)] at e; exact e)⟩⟩, fun x => hJ.f12 (upneR (by decide) x), fun x => by rw [upeqR (by decide)]; exact hJ.q12_11 (upneR (by decide) x), hJ.w⟩, rfl⟩
  ·have ho' := Option.some.inj ho
   subst ho'
   simp [Region.binds] at haf
   have p1 : listed.getD 1 true = true := waitsR (by simp [haf])
   obtain rfl := hJ.f1 p1
   have HJ := Lib.hid hJ
   clear hJ haf
   try unfold pt
   go_simp
   have hJ := HJ.out
   exact hK _ _ ⟨_, _, _, _, _, _, _, _, _, _, _, _, ⟨fun x => hJ.f0 (upneR (by decide) x), fun x => hJ.f1 (upneR (by decide) x), fun _ => rfl, fun x => hJ.f3 (upneR (by decide) x), fun x => hJ.f4 (upneR (by decide) x), fun x => hJ.f5 (upneR (by decide) x), fun x => hJ.f6 (upneR (by decide) x), fun x => hJ.f7 (upneR (by decide) x), fun x => hJ.f8 (upneR (by decide) x), fun x => hJ.f9 (upneR (by decide) x), fun x => hJ.f10 (upneR (by decide) x), fun x => by obtain ⟨s, e1, e2⟩ := hJ.f11 (upneR (by decide) x); exact ⟨s, e1, ⟨e2.1, fun e => e2.2 (by rw [upeqR (by decide)] at e; exact e)⟩⟩, fun x => hJ.f12 (upneR (by decide) x), fun x => by rw [upeqR (by decide)]; exact hJ.q12_11 (upneR (by decide) x), hJ.w⟩, rfl⟩
  ·have ho' := Option.some.inj ho
   subst ho'
   simp [Region.binds] at haf
   have p2 : listed.getD 2 true = true := waitsR (by simp [haf])
   obtain rfl := hJ.f2 p2
   have HJ := Lib.hid hJ
   clear hJ haf
   try unfold pt
   go_simp
   have hJ := HJ.out
   exact hK _ _ ⟨_, _, _, _, _, _, _, _, _, _, _, _, ⟨fun x => hJ.f0 (upneR (by decide) x), fun x => hJ.f1 (upneR (by decide) x), fun x => hJ.f2 (upneR (by decide) x), fun _ => rfl, fun x => hJ.f4 (upneR (by decide) x), fun x => hJ.f5 (upneR (by decide) x), fun x => hJ.f6 (upneR (by decide) x), fun x => hJ.f7 (upneR (by decide) x), fun x => hJ.f8 (upneR (by decide) x), fun x => hJ.f9 (upneR (by decide) x), fun x => hJ.f10 (upneR (by decide) x), fun x => by obtain ⟨s, e1, e2⟩ := hJ.f11 (upneR (by decide) x); exact ⟨s, e1, ⟨e2.1, fun e => e2.2 (by rw [upeqR (by decide)] at e; exact e)⟩⟩, fun x => hJ.f12 (upneR (by decide) x), fun x => by rw [upeqR (by decide)]; exact hJ.q12_11 (upneR (by decide) x), hJ.w⟩, rfl⟩
  ·have ho' := Option.some.inj ho
   subst ho'
   simp [Region.binds] at haf
   have p3 : listed.getD 3 true = true := waitsR (by simp [haf])
   obtain rfl := hJ.f3 p3
   have e1 := (hJ.w.cell (p := ⟨g, 2, none⟩) hlg).trans hg2
   have HJ := Lib.hid hJ
   clear hJ haf
   try unfold pt
   go_simp
   have hJ := HJ.out
   exact hK _ _ ⟨_, _, _, _, _, _, _, _, _, _, _, _, ⟨fun x => hJ.f0 (upneR (by decide) x), fun x => hJ.f1 (upneR (by decide) x), fun x => hJ.f2 (upneR (by decide) x), fun x => hJ.f3 (upneR (by decide) x), fun _ => rfl, fun x => hJ.f5 (upneR (by decide) x), fun x => hJ.f6 (upneR (by decide) x), fun x => hJ.f7 (upneR (by decide) x), fun x => hJ.f8 (upneR (by decide) x), fun x => hJ.f9 (upneR (by decide) x), fun x => hJ.f10 (upneR (by decide) x), fun x => by obtain ⟨s, e1, e2⟩ := hJ.f11 (upneR (by decide) x); exact ⟨s, e1, ⟨e2.1, fun e => e2.2 (by rw [upeqR (by decide)] at e; exact e)⟩⟩, fun x => hJ.f12 (upneR (by decide) x), fun x => by rw [upeqR (by decide)]; exact hJ.q12_11 (upneR (by decide) x), hJ.w⟩, rfl⟩
  ·have ho' := Option.some.inj ho
   subst ho'
   have HJ := Lib.hid hJ
   clear hJ haf
   try unfold pt
   go_simp
   have hJ := HJ.out
   exact hK _ _ ⟨_, _, _, _, _, _, _, _, _, _, _, _, ⟨fun x => hJ.f0 (upneR (by decide) x), fun x => hJ.f1 (upneR (by decide) x), fun x => hJ.f2 (upneR (by decide) x), fun x => hJ.f3 (upneR (by decide) x), fun x => hJ.f4 (upneR (by decide) x), fun _ => rfl, fun x => hJ.f6 (upneR (by decide) x), fun x => hJ.f7 (upneR (by decide) x), fun x => hJ.f8 (upneR (by decide) x), fun x => hJ.f9 (upneR (by decide) x), fun x => hJ.f10 (upneR (by decide) x), fun x => by obtain ⟨s, e1, e2⟩ := hJ.f11 (upneR (by decide) x); exact ⟨s, e1, ⟨e2.1, fun e => e2.2 (by rw [upeqR (by decide)] at e; exact e)⟩⟩, fun x => hJ.f12 (upneR (by decide) x), fun x => by rw [upeqR (by decide)]; exact hJ.q12_11 (upneR (by decide) x), hJ.w⟩, rfl⟩
  ·have ho' := Option.some.inj ho
   subst ho'
   simp [Region.binds] at haf
   have p5 : listed.getD 5 true = true := waitsR (by simp [haf])
   obtain rfl := hJ.f5 p5
   have HJ := Lib.hid hJ
   clear hJ haf
   try unfold pt
   go_simp
   have hJ := HJ.out
   exact hK _ _ ⟨_, _, _, _, _, _, _, _, _, _, _, _, ⟨fun x => hJ.f0 (upneR (by decide) x), fun x => hJ.f1 (upneR (by decide) x), fun x => hJ.f2 (upneR (by decide) x), fun x => hJ.f3 (upneR (by decide) x), fun x => hJ.f4 (upneR (by decide) x), fun x => hJ.f5 (upneR (by decide) x), fun _ => rfl, fun x => hJ.f7 (upneR (by decide) x), fun x => hJ.f8 (upneR (by decide) x), fun x => hJ.f9 (upneR (by decide) x), fun x => hJ.f10 (upneR (by decide) x), fun x => by obtain ⟨s, e1, e2⟩ := hJ.f11 (upneR (by decide) x); exact ⟨s, e1, ⟨e2.1, fun e => e2.2 (by rw [upeqR (by decide)] at e; exact e)⟩⟩, fun x => hJ.f12 (upneR (by decide) x), fun x => by rw [upeqR (by decide)]; exact hJ.q12_11 (upneR (by decide) x), hJ.w⟩, rfl⟩
  ·have ho' := Option.some.inj ho
   subst ho'
   simp [Region.binds] at haf
   have p6 : listed.getD 6 true = true := waitsR (by simp [haf])
   obtain rfl := hJ.f6 p6
   have HJ := Lib.hid hJ
   clear hJ haf
   try unfold pt
   go_simp
   have hJ := HJ.out
   exact hK _ _ ⟨_, _, _, _, _, _, _, _, _, _, _, _, ⟨fun x => hJ.f0 (upneR (by decide) x), fun x => hJ.f1 (upneR (by decide) x), fun x => hJ.f2 (upneR (by decide) x), fun x => hJ.f3 (upneR (by decide) x), fun x => hJ.f4 (upneR (by decide) x), fun x => hJ.f5 (upneR (by decide) x), fun x => hJ.f6 (upneR (by decide) x), fun _ => rfl, fun x => hJ.f8 (upneR (by decide) x), fun x => hJ.f9 (upneR (by decide) x), fun x => hJ.f10 (upneR (by decide) x), fun x => by obtain ⟨s, e1, e2⟩ := hJ.f11 (upneR (by decide) x); exact ⟨s, e1, ⟨e2.1, fun e => e2.2 (by rw [upeqR (by decide)] at e; exact e)⟩⟩, fun x => hJ.f12 (upneR (by decide) x), fun x => by rw [upeqR (by decide)]; exact hJ.q12_11 (upneR (by decide) x), hJ.w⟩, rfl⟩
  ·have ho' := Option.some.inj ho
   subst ho'
   simp [Region.binds] at haf
   have p7 : listed.getD 7 true = true := waitsR (by simp [haf])
   obtain rfl := hJ.f7 p7
   have e1 := (hJ.w.cell (p := ⟨be, i * 3 + 1, none⟩) hle).trans he1
   have HJ := Lib.hid hJ
   clear hJ haf
   try unfold pt
   go_simp
   have hJ := HJ.out
   exact hK _ _ ⟨_, _, _, _, _, _, _, _, _, _, _, _, ⟨fun x => hJ.f0 (upneR (by decide) x), fun x => hJ.f1 (upneR (by decide) x), fun x => hJ.f2 (upneR (by decide) x), fun x => hJ.f3 (upneR (by decide) x), fun x => hJ.f4 (upneR (by decide) x), fun x => hJ.f5 (upneR (by decide) x), fun x => hJ.f6 (upneR (by decide) x), fun x => hJ.f7 (upneR (by decide) x), fun _ => rfl, fun x => hJ.f9 (upneR (by decide) x), fun x => hJ.f10 (upneR (by decide) x), fun x => by obtain ⟨s, e1, e2⟩ := hJ.f11 (upneR (by decide) x); exact ⟨s, e1, ⟨e2.1, fun e => e2.2 (by rw [upeqR (by decide)] at e; exact e)⟩⟩, fun x => hJ.f12 (upneR (by decide) x), fun x => by rw [upeqR (by decide)]; exact hJ.q12_11 (upneR (by decide) x), hJ.w⟩, rfl⟩
  ·have ho' := Option.some.inj ho
   subst ho'
   simp [Region.binds] at haf
   have p4 : listed.getD 4 true = true := waitsR (by simp [haf])
   have p8 : listed.getD 8 true = true := waitsR (by simp [haf])
   obtain rfl := hJ.f4 p4
   obtain rfl := hJ.f8 p8
   have hu1 : (nd : Int) < (nn : Int) := by omega
   have HJ := Lib.hid hJ
   clear hJ haf
   try unfold pt
   go_simp
   have hJ := HJ.out
   exact hK _ _ ⟨_, _, _, _, _, _, _, _, _, _, _, _, ⟨fun x => hJ.f0 (upneR (by decide) x), fun x => hJ.f1 (upneR (by decide) x), fun x => hJ.f2 (upneR (by decide) x), fun x => hJ.f3 (upneR (by decide) x), fun x => hJ.f4 (upneR (by decide) x), fun x => hJ.f5 (upneR (by decide) x), fun x => hJ.f6 (upneR (by decide) x), fun x => hJ.f7 (upneR (by decide) x), fun x => hJ.f8 (upneR (by decide) x), fun _ => rfl, fun x => hJ.f10 (upneR (by decide) x), fun x => by obtain ⟨s, e1, e2⟩ := hJ.f11 (upneR (by decide) x); exact ⟨s, e1, ⟨e2.1, fun e => e2.2 (by rw [upeqR (by decide)] at e; exact e)⟩⟩, fun x => hJ.f12 (upneR (by decide) x), fun x => by rw [upeqR (by decide)]; exact hJ.q12_11 (upneR (by decide) x), hJ.w⟩, rfl⟩
  ·have ho' := Option.some.inj ho
   subst ho'
   simp [Region.binds] at haf
   have p9 : listed.getD 9 true = true := waitsR (by simp [haf])
   obtain rfl := hJ.f9 p9
   have e0 := (hJ.w.cell (p := ⟨b2, nd * 4, none⟩) hlb).trans hn0
   have e1 := (hJ.w.cell (p := ⟨b2, nd * 4 + 1, none⟩) hlb).trans hn1
   have e2 := (hJ.w.cell (p := ⟨b2, nd * 4 + 2, none⟩) hlb).trans hn2
   have e3 := (hJ.w.cell (p := ⟨b2, nd * 4 + 3, none⟩) hlb).trans hn3
   have HJ := Lib.hid hJ
   clear hJ haf
   try unfold pt
   go_simp
   have hJ := HJ.out
   exact hK _ _ ⟨_, _, _, _, _, _, _, _, _, _, _, _, ⟨fun x => hJ.f0 (upneR (by decide) x), fun x => hJ.f1 (upneR (by decide) x), fun x => hJ.f2 (upneR (by decide) x), fun x => hJ.f3 (upneR (by decide) x), fun x => hJ.f4 (upneR (by decide) x), fun x => hJ.f5 (upneR (by decide) x), fun x => hJ.f6 (upneR (by decide) x), fun x => hJ.f7 (upneR (by decide) x), fun x => hJ.f8 (upneR (by decide) x), fun x => hJ.f9 (upneR (by decide) x), fun _ => rfl, fun x => by obtain ⟨s, e1, e2⟩ := hJ.f11 (upneR (by decide) x); exact ⟨s, e1, ⟨e2.1, fun e => e2.2 (by rw [upeqR (by decide)] at e; exact e)⟩⟩, fun x => hJ.f12 (upneR (by decide) x), fun x => by rw [upeqR (by decide)]; exact hJ.q12_11 (upneR (by decide) x), hJ.w⟩, rfl⟩
  ·have ho' := Option.some.inj ho
   subst ho'
   have HJ := Lib.hid hJ
   clear hJ haf
   try unfold pt
   go_simp
   have hJ := HJ.out
   exact hK _ _ ⟨_, _, _, _, _, _, _, _, _, _, _, _, ⟨fun x => hJ.f0 (upneR (by decide) x), fun x => hJ.f1 (upneR (by decide) x), fun x => hJ.f2 (upneR (by decide) x), fun x => hJ.f3 (upneR (by decide) x), fun x => hJ.f4 (upneR (by decide) x), fun x => hJ.f5 (upneR (by decide) x), fun x => hJ.f6 (upneR (by decide) x), fun x => hJ.f7 (upneR (by decide) x), fun x => hJ.f8 (upneR (by decide) x), fun x => hJ.f9 (upneR (by decide) x), fun x => hJ.f10 (upneR (by decide) x), fun _ => ⟨W.heap.size, rfl, hJ.w.size, fun _ => Blk.new _ _ _⟩, fun x => by have e := hJ.q12_11 (upneR (by decide) x); rw [hl] at e; exact absurd e (by decide), fun _ => upselfR, hJ.w.alloc hJ.w.size _⟩, rfl⟩
  ·have ho' := Option.some.inj ho
   subst ho'
   simp [Region.binds] at haf
   have p11 : listed.getD 11 true = true := waitsR (by simp [haf])
   have p10 : listed.getD 10 true = true := waitsR (by simp [haf])
   obtain ⟨s11, rfl, hE11⟩ := hJ.f11 p11
   obtain rfl := hJ.f10 p10
   obtain ⟨hge, hbl⟩ := hE11
   have hbl := hbl hl
   have hlt := hbl.lt
   have fz0 := hbl.frozen 0
   have fz1 := hbl.frozen 1
   have fz2 := hbl.frozen 2
   have fz3 := hbl.frozen 3
   have m0 := hbl.cell 0
   have m1 := hbl.cell 1
   have m2 := hbl.cell 2
   have m3 := hbl.cell 3
   simp at m0 m1 m2 m3
   have HL := Lib.hid (layNod (B := w0.heap.size) hge hbl (.string y.name) (.int .i64 y.kind) (.string y.data) (.int .i64 y.unit))
   have HJ := Lib.hid hJ
   clear hJ haf
   try unfold pt
   go_simp
   have hJ := HJ.out
   have L := HL.out
   exact hK _ _ ⟨_, _, _, _, _, _, _, _, _, _, _, _, ⟨fun x => hJ.f0 (upneR (by decide) x), fun x => hJ.f1 (upneR (by decide) x), fun x => hJ.f2 (upneR (by decide) x), fun x => hJ.f3 (upneR (by decide) x), fun x => hJ.f4 (upneR (by decide) x), fun x => hJ.f5 (upneR (by decide) x), fun x => hJ.f6 (upneR (by decide) x), fun x => hJ.f7 (upneR (by decide) x), fun x => hJ.f8 (upneR (by decide) x), fun x => hJ.f9 (upneR (by decide) x), fun x => hJ.f10 (upneR (by decide) x), fun x => by obtain ⟨s, e1, e2⟩ := hJ.f11 (upneR (by decide) x); exact ⟨s, e1, ⟨e2.1, fun e => absurd e (by rw [upselfR]; decide)⟩⟩, fun _ => ⟨s11, rfl, hge, L.1⟩, fun _ => by rw [upeqR (by decide)]; exact p11, hJ.w.trans L.2⟩, rfl⟩
 case fin =>
  intro listed a W hall hI
  obtain ⟨y9, y68, y69, y70, y71, y72, y73, y74, y75, y76, y77, y78, hJ, rfl⟩ := hI
  exact HQ.out listed W _ _ _ _ _ _ _ _ _ _ _ _ hall hJ
end Go.Proofs.YtdjamdbamkhblacDoor
namespace Go.Proofs.YtdjamdbamkhblacDoor
open Go.RowKit
set_option linter.unusedVariables false
set_option linter.unusedSimpArgs false
def ba (l : List UInt8) : ByteArray := ⟨l.toArray⟩
theorem ba_app (a b : List UInt8) : ba a ++ ba b = ba (a ++ b) := by
 apply ByteArray.ext
 simp [ba]
theorem conv_nums (W : World) (xs : List Int) (C : Array Value) (hC : C = (xs.map (Value.int .u8)).toArray) (n : Nat) (hn : xs.length = n) (cap : Nat) :
  (convert 84 9 (.slice (some ⟨W.heap.size, 0, none⟩) n cap)).run Tryd.prog (W.alloc (.cells C 5)) = .ok (.string (strOfNums xs)) (W.alloc (.cells C 5)) := by
 refine run_convert_bytes_arg _ 84 5 Tryd.underlying84 Tryd.underlying5 W.heap.size 0 n cap xs hn (fun i hi => ?_) 9 Tryd.underlying9
 subst hC
 simp [List.getD, List.getElem?_eq_getElem (show i < xs.length by omega)]
theorem conv2 (W : World) (x y : Int) (cap : Nat) : (convert 84 9 (.slice (some ⟨W.heap.size, 0, none⟩) 2 cap)).run Tryd.prog (W.alloc (.cells #[.int .u8 x, .int .u8 y] 5)) = .ok (.string (strOfNums [x, y])) (W.alloc (.cells #[.int .u8 x, .int .u8 y] 5)) := conv_nums W [x, y] _ rfl 2 rfl cap
theorem nums_ba (xs : List Int) : strOfNums xs = ba (xs.map fun n => u8 n.toNat) := by
 simp [strOfNums, ba, u8]
theorem u8_mod (n : Nat) : u8 (n % 256) = u8 n := by
 apply UInt8.toNat_inj.1
 rw [u8_toNat, u8_toNat]; omega
theorem nums_two (n : Nat) : strOfNums [(n : Int) / 256, (n : Int) % 256] = ba (two n) := by
 rw [nums_ba]
 simp only [List.map_cons, List.map_nil]
 rw [show ((n : Int) / 256).toNat = n / 256 by omega, show ((n : Int) % 256).toNat = n % 256 by omega, u8_mod]
 rfl
theorem adl_drop {l : List UInt8} {k : Nat} (h : k < l.length) (a b : Nat) : adl (l.drop k) a b = adl (l.drop (k + 1)) ((a + l[k].toNat) % 65521) ((b + (a + l[k].toNat) % 65521) % 65521) := by
 rw [List.drop_eq_getElem_cons h]; rfl
theorem adl_end {l : List UInt8} {k : Nat} (h : l.length ≤ k) (a b : Nat) : adl (l.drop k) a b = (a, b) := by
 rw [List.drop_of_length_le h]; rfl
set_option maxHeartbeats 1000000 in
theorem two_any (n : Nat) (w : World) (hn : n ≤ 65535) :
  Calls Tryd.prog 112 #[.int .i64 (n : Int)] w fun e w' => e = .returned (.string (ba (two n))) ∧ Below w.heap.size w w' := by
 have k2 := conv2
 go_enter Tryd.func112, Tryd.ntmps112
 go_wp2
 go_ret
 exact ⟨by rw [← nums_two]; rfl, (Below.refl _ _).alloc (Nat.le_refl _) _⟩
set_option maxHeartbeats 1000000 in
theorem seal_any (s : ByteArray) (w : World) (hs : s.size ≤ maxLen) :
  Calls Tryd.prog 113 #[.string s] w fun e w' => e = .returned (.string (ba (sealL s.data.toList))) ∧ Below w.heap.size w w' := by
 unfold maxLen at hs
 have hsz : s.data.toList.length = s.size := by simp
 go_enter Tryd.func113, Tryd.ntmps113
 go_wp2
 go_loop [3, 4, 8] (fun x y i => Cnt s.size i fun k => ∃ a b : Nat, x = .int .i64 (a : Int) ∧ y = .int .i64 (b : Int) ∧ a < 65521 ∧ b < 65521 ∧ Hid (adl s.data.toList 1 0 = adl (s.data.toList.drop k) a b)) (fun _ _ i => s.size - (intOf i).toNat)
 case atStart => exact ⟨0, Nat.zero_le _, rfl, 1, 0, rfl, rfl, by decide, by decide, rfl⟩
 case round =>
  obtain ⟨k, hk, rfl, a, b, rfl, rfl, ha, hb, HV⟩ := hrel
  by_cases hlt : k < s.size
  ·have HD : Hid (adl (s.data.toList.drop k) a b = adl (s.data.toList.drop (k + 1)) ((a + s[k].toNat) % 65521) ((b + (a + s[k].toNat) % 65521) % 65521)) := by
    show _ = _
    have h' : k < s.data.toList.length := by omega
    exact adl_drop h' a b
   have hx : (s[k].toNat : Int) ≤ 255 := by have := s[k].toNat_lt; omega
   clear hsz
   go_wp2
   refine ⟨⟨k + 1, by omega, by go_num, (a + s[k].toNat) % 65521, (b + (a + s[k].toNat) % 65521) % 65521, by simp, by simp, Nat.mod_lt _ (by omega), Nat.mod_lt _ (by omega), ?_⟩, by simp [intOf]; omega⟩
   show _ = _
   rw [HV.out, HD.out]
  ·have HF : Hid (adl s.data.toList 1 0 = (a, b)) := by
    show _ = _
    rw [HV.out, adl_end (by omega)]
   clear hsz
   go_wp2_with (first | (go_at_call 112; (with_reducible refine (two_any a _ (by omega)).mono ?_); rintro e w1 ⟨rfl, hb1⟩) | (go_at_call 112; (with_reducible refine (two_any b _ (by omega)).mono ?_); rintro e w2 ⟨rfl, hb2⟩))
   go_ret
   refine ⟨?_, hb2.trans (hb1.mono hb2.size)⟩
   show Ending.returned (.string (ba (two b) ++ ba (two a))) = _
   rw [ba_app, sealL, HF.out]
end Go.Proofs.YtdjamdbamkhblacDoor
