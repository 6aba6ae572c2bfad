/- The drawn region of write that copies the new bytes into the file's. No condition. By an AI agent (xwcopy.py). -/
import Derived.Test.YtdjamdbamkhblacDoorKRead
import Derived.Test.YtdjamdbamkhblacDoorByRow
namespace Go.Proofs.YtdjamdbamkhblacDoor
open Go.RowKit
set_option linter.unusedVariables false
set_option linter.unusedSimpArgs false
structure WCJ (w0 : World) (gb n c be i p m : Nat) (sb : ByteArray) (listed : Array Bool) (W : World) (y144 y145 y146 y147 y148 y149 y150 y151 y152 y153 : Value) : Prop where
 f0 : listed.getD 0 true = true → y144 = .slice (some ⟨gb, 0, none⟩) n c
 f1 : listed.getD 1 true = true → y145 = .pointer (some ⟨be, i * 3, none⟩)
 f2 : listed.getD 2 true = true → y146 = .pointer (some ⟨be, i * 3, none⟩)
 f3 : listed.getD 3 true = true → y147 = .pointer (some ⟨be, i * 3 + 2, none⟩)
 f4 : listed.getD 4 true = true → y148 = .int .i64 (p : Int)
 f5 : listed.getD 5 true = true → y149 = .slice (some ⟨gb, p, none⟩) (n - p) (c - p)
 f6 : listed.getD 6 true = true → y150 = .string sb
 f7 : listed.getD 7 true = true → y151 = .int .i64 (m : Int)
 f8 : listed.getD 8 true = true → y152 = .string (cutS sb 0 m)
 f9 : listed.getD 9 true = true → ∃ s : Unit, y153 = goInt (cutS sb 0 m).size ∧ W = w0.setCells gb p ((cutS sb 0 m).data.toList.map fun x => Value.int .u8 (x.toNat : Int))
 q9_5 : listed.getD 9 true = true → listed.getD 5 true = true
 q5_4 : listed.getD 5 true = true → listed.getD 4 true = true
 w : listed.getD 9 true = false → W = w0
noncomputable def writeCopyC : Code := ((Tryd.f122.body.bind (regAt 30)).getD .skip)
set_option maxRecDepth 1000000 in
set_option maxHeartbeats 8000000 in
theorem writeCopy (w0 : World) (gb n c be i p m : Nat) (sb : ByteArray) {v0 v3 v4 v5 v6 v7 v8 v9 v10 v11 v12 v13 v16 v17 v18 v19 v20 v21 v22 v23 v24 v25 v26 v27 v28 v29 v30 v31 v32 v33 v34 v35 v36 v37 v38 v39 v40 v41 v42 v43 v44 v45 v46 v47 v48 v49 v50 v51 v52 v53 v54 v55 v56 v57 v58 v59 v60 v61 v62 v63 v64 v65 v66 v67 v68 v69 v70 v71 v72 v73 v74 v75 v76 v77 v78 v79 v80 v81 v82 v83 v84 v85 v86 v87 v88 v89 v90 v91 v92 v93 v94 v95 v96 v97 v98 v99 v100 v101 v102 v103 v104 v105 v106 v107 v108 v109 v110 v111 v112 v113 v114 v115 v116 v117 v118 v119 v120 v121 v122 v123 v124 v125 v126 v127 v128 v129 v130 v131 v132 v133 v134 v135 v136 v137 v138 v139 v140 v141 v142 v143 v144 v145 v146 v147 v148 v149 v150 v151 v152 v153 v154 v155 v156 v157 v158 v159 v160 v161 v162 v163 v164 v165 v166 v167 : Value} (wr : World) (Q : Exit → Act → World → Prop) (hlb : be < w0.heap.size) (hp3 : w0.cell? ⟨be, i * 3 + 2, none⟩ = some (.int .i64 (p : Int))) (hpn : p < n) (hnc : n ≤ c) (hms : m ≤ sb.size) (hc5 : c ≤ maxLen) (hle : (cutS sb 0 m).size ≤ n - p) (hcc : ∀ j, j < (cutS sb 0 m).size → (w0.cell? ⟨gb, p + j, none⟩).isSome = true) (hff : ∀ j, j < (cutS sb 0 m).size → w0.frozen? ⟨gb, p + j, none⟩ = false) (hw00 : wr.drew = w0)
  (hQ : ∀ (listed : Array Bool) (W : World) (y144 y145 y146 y147 y148 y149 y150 y151 y152 y153 : Value), (∀ i, i < 10 → listed.getD i true = true) → WCJ w0 gb n c be i p m sb listed W y144 y145 y146 y147 y148 y149 y150 y151 y152 y153 → Q .normal ⟨#[v0, .pointer (some ⟨be, i * 3, none⟩), .string sb, v3, v4, v5, v6, v7, v8, v9, v10, v11, v12, v13, .int .i64 (m : Int), .slice (some ⟨gb, 0, none⟩) n c, v16, v17, v18, v19, v20, v21, v22, v23, v24, v25, v26, v27, v28, v29, v30, v31, v32, v33, v34, v35, v36, v37, v38, v39, v40, v41, v42, v43, v44, v45, v46, v47, v48, v49, v50, v51, v52, v53, v54, v55, v56, v57, v58, v59, v60, v61, v62, v63, v64, v65, v66, v67, v68, v69, v70, v71, v72, v73, v74, v75, v76, v77, v78, v79, v80, v81, v82, v83, v84, v85, v86, v87, v88, v89, v90, v91, v92, v93, v94, v95, v96, v97, v98, v99, v100, v101, v102, v103, v104, v105, v106, v107, v108, v109, v110, v111, v112, v113, v114, v115, v116, v117, v118, v119, v120, v121, v122, v123, v124, v125, v126, v127, v128, v129, v130, v131, v132, v133, v134, v135, v136, v137, v138, v139, v140, v141, v142, v143, y144, y145, y146, y147, y148, y149, y150, y151, y152, y153, v154, v155, v156, v157, v158, v159, v160, v161, v162, v163, v164, v165, v166, v167], []⟩ W) :
  Code.wp Tryd.prog writeCopyC Q ⟨#[v0, .pointer (some ⟨be, i * 3, none⟩), .string sb, v3, v4, v5, v6, v7, v8, v9, v10, v11, v12, v13, .int .i64 (m : Int), .slice (some ⟨gb, 0, none⟩) n c, v16, v17, v18, v19, v20, v21, v22, v23, v24, v25, v26, v27, v28, v29, v30, v31, v32, v33, v34, v35, v36, v37, v38, v39, v40, v41, v42, v43, v44, v45, v46, v47, v48, v49, v50, v51, v52, v53, v54, v55, v56, v57, v58, v59, v60, v61, v62, v63, v64, v65, v66, v67, v68, v69, v70, v71, v72, v73, v74, v75, v76, v77, v78, v79, v80, v81, v82, v83, v84, v85, v86, v87, v88, v89, v90, v91, v92, v93, v94, v95, v96, v97, v98, v99, v100, v101, v102, v103, v104, v105, v106, v107, v108, v109, v110, v111, v112, v113, v114, v115, v116, v117, v118, v119, v120, v121, v122, v123, v124, v125, v126, v127, v128, v129, v130, v131, v132, v133, v134, v135, v136, v137, v138, v139, v140, v141, v142, v143, v144, v145, v146, v147, v148, v149, v150, v151, v152, v153, v154, v155, v156, v157, v158, v159, v160, v161, v162, v163, v164, v165, v166, v167], []⟩ wr := by
 have HQ := Lib.hid hQ
 clear hQ
 conv => arg 2; whnf
 refine wp_region_invB (fun listed a W => ∃ y144 y145 y146 y147 y148 y149 y150 y151 y152 y153, WCJ w0 gb n c be i p m sb listed W y144 y145 y146 y147 y148 y149 y150 y151 y152 y153 ∧ a = ⟨#[v0, .pointer (some ⟨be, i * 3, none⟩), .string sb, v3, v4, v5, v6, v7, v8, v9, v10, v11, v12, v13, .int .i64 (m : Int), .slice (some ⟨gb, 0, none⟩) n c, v16, v17, v18, v19, v20, v21, v22, v23, v24, v25, v26, v27, v28, v29, v30, v31, v32, v33, v34, v35, v36, v37, v38, v39, v40, v41, v42, v43, v44, v45, v46, v47, v48, v49, v50, v51, v52, v53, v54, v55, v56, v57, v58, v59, v60, v61, v62, v63, v64, v65, v66, v67, v68, v69, v70, v71, v72, v73, v74, v75, v76, v77, v78, v79, v80, v81, v82, v83, v84, v85, v86, v87, v88, v89, v90, v91, v92, v93, v94, v95, v96, v97, v98, v99, v100, v101, v102, v103, v104, v105, v106, v107, v108, v109, v110, v111, v112, v113, v114, v115, v116, v117, v118, v119, v120, v121, v122, v123, v124, v125, v126, v127, v128, v129, v130, v131, v132, v133, v134, v135, v136, v137, v138, v139, v140, v141, v142, v143, y144, y145, y146, y147, y148, y149, y150, y151, y152, y153, v154, v155, v156, v157, v158, v159, v160, v161, v162, v163, v164, v165, v166, v167], []⟩) (by kernel_rfl) (ord_ofB (by kernel_rfl)) ?start ?step ?fin
 case start => exact ⟨_, _, _, _, _, _, _, _, _, _, ⟨fun h => absurd h (by decide), fun h => absurd h (by decide), fun h => absurd h (by decide), fun h => absurd h (by decide), fun h => absurd h (by decide), fun h => absurd h (by decide), fun h => absurd h (by decide), fun h => absurd h (by decide), fun h => absurd h (by decide), fun h => absurd h (by decide), fun h => absurd h (by decide), fun h => absurd h (by decide), fun _ => hw00⟩, rfl⟩
 case step =>
  intro i o ho listed a W hl haf hI K hK
  obtain ⟨y144, y145, y146, y147, y148, y149, y150, y151, y152, y153, hJ, rfl⟩ := hI
  have hi : i < 10 := (Array.getElem?_eq_some_iff.1 ho).1
  have h16 : i = 0 ∨ i = 1 ∨ i = 2 ∨ i = 3 ∨ i = 4 ∨ i = 5 ∨ i = 6 ∨ i = 7 ∨ i = 8 ∨ i = 9 := by omega
  rcases h16 with rfl | rfl | rfl | rfl | rfl | rfl | rfl | rfl | rfl | rfl
  ·have ho' := Option.some.inj ho
   subst ho'
   have HJ := Lib.hid hJ
   clear hJ haf
   try unfold pt
   go_simp
   have hJ := HJ.out
   exact hK _ _ ⟨_, _, _, _, _, _, _, _, _, _, ⟨fun _ => rfl, fun x => hJ.f1 (upneR (by decide) x), fun x => hJ.f2 (upneR (by decide) x), fun x => hJ.f3 (upneR (by decide) x), fun x => hJ.f4 (upneR (by decide) x), fun x => hJ.f5 (upneR (by decide) x), fun x => hJ.f6 (upneR (by decide) x), fun x => hJ.f7 (upneR (by decide) x), fun x => hJ.f8 (upneR (by decide) x), fun x => hJ.f9 (upneR (by decide) x), fun x => by rw [upeqR (by decide)]; exact hJ.q9_5 (upneR (by decide) x), fun x => by rw [upeqR (by decide)]; exact hJ.q5_4 (upneR (by decide) x), (fun h => hJ.w (by rw [upeqR (by decide)] at h; exact h))⟩, rfl⟩
  ·have ho' := Option.some.inj ho
   subst ho'
   have HJ := Lib.hid hJ
   clear hJ haf
   try unfold pt
   go_simp
   have hJ := HJ.out
   exact hK _ _ ⟨_, _, _, _, _, _, _, _, _, _, ⟨fun x => hJ.f0 (upneR (by decide) x), fun _ => rfl, fun x => hJ.f2 (upneR (by decide) x), fun x => hJ.f3 (upneR (by decide) x), fun x => hJ.f4 (upneR (by decide) x), fun x => hJ.f5 (upneR (by decide) x), fun x => hJ.f6 (upneR (by decide) x), fun x => hJ.f7 (upneR (by decide) x), fun x => hJ.f8 (upneR (by decide) x), fun x => hJ.f9 (upneR (by decide) x), fun x => by rw [upeqR (by decide)]; exact hJ.q9_5 (upneR (by decide) x), fun x => by rw [upeqR (by decide)]; exact hJ.q5_4 (upneR (by decide) x), (fun h => hJ.w (by rw [upeqR (by decide)] at h; exact h))⟩, rfl⟩
  ·have ho' := Option.some.inj ho
   subst ho'
   simp [Region.binds] at haf
   have p1 : listed.getD 1 true = true := waitsR (by simp [haf])
   obtain rfl := hJ.f1 p1
   have HJ := Lib.hid hJ
   clear hJ haf
   try unfold pt
   go_simp
   have hJ := HJ.out
   exact hK _ _ ⟨_, _, _, _, _, _, _, _, _, _, ⟨fun x => hJ.f0 (upneR (by decide) x), fun x => hJ.f1 (upneR (by decide) x), fun _ => rfl, fun x => hJ.f3 (upneR (by decide) x), fun x => hJ.f4 (upneR (by decide) x), fun x => hJ.f5 (upneR (by decide) x), fun x => hJ.f6 (upneR (by decide) x), fun x => hJ.f7 (upneR (by decide) x), fun x => hJ.f8 (upneR (by decide) x), fun x => hJ.f9 (upneR (by decide) x), fun x => by rw [upeqR (by decide)]; exact hJ.q9_5 (upneR (by decide) x), fun x => by rw [upeqR (by decide)]; exact hJ.q5_4 (upneR (by decide) x), (fun h => hJ.w (by rw [upeqR (by decide)] at h; exact h))⟩, rfl⟩
  ·have ho' := Option.some.inj ho
   subst ho'
   simp [Region.binds] at haf
   have p2 : listed.getD 2 true = true := waitsR (by simp [haf])
   obtain rfl := hJ.f2 p2
   have HJ := Lib.hid hJ
   clear hJ haf
   try unfold pt
   go_simp
   have hJ := HJ.out
   exact hK _ _ ⟨_, _, _, _, _, _, _, _, _, _, ⟨fun x => hJ.f0 (upneR (by decide) x), fun x => hJ.f1 (upneR (by decide) x), fun x => hJ.f2 (upneR (by decide) x), fun _ => rfl, fun x => hJ.f4 (upneR (by decide) x), fun x => hJ.f5 (upneR (by decide) x), fun x => hJ.f6 (upneR (by decide) x), fun x => hJ.f7 (upneR (by decide) x), fun x => hJ.f8 (upneR (by decide) x), fun x => hJ.f9 (upneR (by decide) x), fun x => by rw [upeqR (by decide)]; exact hJ.q9_5 (upneR (by decide) x), fun x => by rw [upeqR (by decide)]; exact hJ.q5_4 (upneR (by decide) x), (fun h => hJ.w (by rw [upeqR (by decide)] at h; exact h))⟩, rfl⟩
  ·have ho' := Option.some.inj ho
   subst ho'
   simp [Region.binds] at haf
   have p3 : listed.getD 3 true = true := waitsR (by simp [haf])
   obtain rfl := hJ.f3 p3
   obtain rfl : W = w0 := hJ.w (by rw [← Bool.not_eq_true]; intro e; have e := hJ.q9_5 e; have e := hJ.q5_4 e; rw [hl] at e; cases e)
   have HJ := Lib.hid hJ
   clear hJ haf
   try unfold pt
   go_simp
   have hJ := HJ.out
   exact hK _ _ ⟨_, _, _, _, _, _, _, _, _, _, ⟨fun x => hJ.f0 (upneR (by decide) x), fun x => hJ.f1 (upneR (by decide) x), fun x => hJ.f2 (upneR (by decide) x), fun x => hJ.f3 (upneR (by decide) x), fun _ => rfl, fun x => hJ.f5 (upneR (by decide) x), fun x => hJ.f6 (upneR (by decide) x), fun x => hJ.f7 (upneR (by decide) x), fun x => hJ.f8 (upneR (by decide) x), fun x => hJ.f9 (upneR (by decide) x), fun x => by rw [upeqR (by decide)]; exact hJ.q9_5 (upneR (by decide) x), fun _ => upselfR, (fun h => hJ.w (by rw [upeqR (by decide)] at h; exact h))⟩, rfl⟩
  ·have ho' := Option.some.inj ho
   subst ho'
   simp [Region.binds] at haf
   have p0 : listed.getD 0 true = true := waitsR (by simp [haf])
   have p4 : listed.getD 4 true = true := waitsR (by simp [haf])
   obtain rfl := hJ.f0 p0
   obtain rfl := hJ.f4 p4
   have zp1 : (p : Int) ≤ (n : Int) := by omega
   have zp2 : (n : Int) ≤ (c : Int) := by omega
   have zp3 : ¬ c = p := by omega
   have HJ := Lib.hid hJ
   clear hJ haf
   try unfold pt
   go_simp
   have hJ := HJ.out
   exact hK _ _ ⟨_, _, _, _, _, _, _, _, _, _, ⟨fun x => hJ.f0 (upneR (by decide) x), fun x => hJ.f1 (upneR (by decide) x), fun x => hJ.f2 (upneR (by decide) x), fun x => hJ.f3 (upneR (by decide) x), fun x => hJ.f4 (upneR (by decide) x), fun _ => rfl, fun x => hJ.f6 (upneR (by decide) x), fun x => hJ.f7 (upneR (by decide) x), fun x => hJ.f8 (upneR (by decide) x), fun x => hJ.f9 (upneR (by decide) x), fun _ => upselfR, fun _ => by rw [upeqR (by decide)]; exact p4, (fun h => hJ.w (by rw [upeqR (by decide)] at h; exact h))⟩, rfl⟩
  ·have ho' := Option.some.inj ho
   subst ho'
   have HJ := Lib.hid hJ
   clear hJ haf
   try unfold pt
   go_simp
   have hJ := HJ.out
   exact hK _ _ ⟨_, _, _, _, _, _, _, _, _, _, ⟨fun x => hJ.f0 (upneR (by decide) x), fun x => hJ.f1 (upneR (by decide) x), fun x => hJ.f2 (upneR (by decide) x), fun x => hJ.f3 (upneR (by decide) x), fun x => hJ.f4 (upneR (by decide) x), fun x => hJ.f5 (upneR (by decide) x), fun _ => rfl, fun x => hJ.f7 (upneR (by decide) x), fun x => hJ.f8 (upneR (by decide) x), fun x => hJ.f9 (upneR (by decide) x), fun x => by rw [upeqR (by decide)]; exact hJ.q9_5 (upneR (by decide) x), fun x => by rw [upeqR (by decide)]; exact hJ.q5_4 (upneR (by decide) x), (fun h => hJ.w (by rw [upeqR (by decide)] at h; exact h))⟩, rfl⟩
  ·have ho' := Option.some.inj ho
   subst ho'
   have HJ := Lib.hid hJ
   clear hJ haf
   try unfold pt
   go_simp
   have hJ := HJ.out
   exact hK _ _ ⟨_, _, _, _, _, _, _, _, _, _, ⟨fun x => hJ.f0 (upneR (by decide) x), fun x => hJ.f1 (upneR (by decide) x), fun x => hJ.f2 (upneR (by decide) x), fun x => hJ.f3 (upneR (by decide) x), fun x => hJ.f4 (upneR (by decide) x), fun x => hJ.f5 (upneR (by decide) x), fun x => hJ.f6 (upneR (by decide) x), fun _ => rfl, fun x => hJ.f8 (upneR (by decide) x), fun x => hJ.f9 (upneR (by decide) x), fun x => by rw [upeqR (by decide)]; exact hJ.q9_5 (upneR (by decide) x), fun x => by rw [upeqR (by decide)]; exact hJ.q5_4 (upneR (by decide) x), (fun h => hJ.w (by rw [upeqR (by decide)] at h; exact h))⟩, rfl⟩
  ·have ho' := Option.some.inj ho
   subst ho'
   simp [Region.binds] at haf
   have p6 : listed.getD 6 true = true := waitsR (by simp [haf])
   have p7 : listed.getD 7 true = true := waitsR (by simp [haf])
   obtain rfl := hJ.f6 p6
   obtain rfl := hJ.f7 p7
   have zm : (m : Int) ≤ (sb.size : Int) := by omega
   have HJ := Lib.hid hJ
   clear hJ haf
   try unfold pt
   go_simp
   try simp only [cut_ext]
   have hJ := HJ.out
   exact hK _ _ ⟨_, _, _, _, _, _, _, _, _, _, ⟨fun x => hJ.f0 (upneR (by decide) x), fun x => hJ.f1 (upneR (by decide) x), fun x => hJ.f2 (upneR (by decide) x), fun x => hJ.f3 (upneR (by decide) x), fun x => hJ.f4 (upneR (by decide) x), fun x => hJ.f5 (upneR (by decide) x), fun x => hJ.f6 (upneR (by decide) x), fun x => hJ.f7 (upneR (by decide) x), fun _ => rfl, fun x => hJ.f9 (upneR (by decide) x), fun x => by rw [upeqR (by decide)]; exact hJ.q9_5 (upneR (by decide) x), fun x => by rw [upeqR (by decide)]; exact hJ.q5_4 (upneR (by decide) x), (fun h => hJ.w (by rw [upeqR (by decide)] at h; exact h))⟩, rfl⟩
  ·have ho' := Option.some.inj ho
   subst ho'
   simp [Region.binds] at haf
   have p5 : listed.getD 5 true = true := waitsR (by simp [haf])
   have p8 : listed.getD 8 true = true := waitsR (by simp [haf])
   obtain rfl := hJ.f5 p5
   obtain rfl := hJ.f8 p8
   obtain rfl : W = w0 := hJ.w hl
   have HJ := Lib.hid hJ
   clear hJ haf
   try unfold pt
   refine step_copy_string rfl _ _ _ _ rfl 5 Tryd.underlying84 sizeOf_u8 gb p (n - p) (c - p) rfl (cutS sb 0 m) rfl hle hcc hff ?_
   have hJ := HJ.out
   exact hK _ _ ⟨_, _, _, _, _, _, _, _, _, _, ⟨fun x => hJ.f0 (upneR (by decide) x), fun x => hJ.f1 (upneR (by decide) x), fun x => hJ.f2 (upneR (by decide) x), fun x => hJ.f3 (upneR (by decide) x), fun x => hJ.f4 (upneR (by decide) x), fun x => hJ.f5 (upneR (by decide) x), fun x => hJ.f6 (upneR (by decide) x), fun x => hJ.f7 (upneR (by decide) x), fun x => hJ.f8 (upneR (by decide) x), fun _ => ⟨(), rfl, rfl⟩, fun _ => by rw [upeqR (by decide)]; exact p5, fun x => by rw [upeqR (by decide)]; exact hJ.q5_4 (upneR (by decide) x), (fun h => absurd h (by rw [upselfR]; decide))⟩, rfl⟩
 case fin =>
  intro listed a W hall hI
  obtain ⟨y144, y145, y146, y147, y148, y149, y150, y151, y152, y153, hJ, rfl⟩ := hI
  exact HQ.out listed W _ _ _ _ _ _ _ _ _ _ hall hJ
end Go.Proofs.YtdjamdbamkhblacDoor
