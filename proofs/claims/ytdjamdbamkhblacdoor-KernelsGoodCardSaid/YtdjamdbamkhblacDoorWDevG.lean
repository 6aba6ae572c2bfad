/- The drawn regions of write and writtenAt in which a module is asked. No condition. By an AI agent (xwdev.py). -/
import Derived.Test.YtdjamdbamkhblacDoorG17
namespace Go.Proofs.YtdjamdbamkhblacDoor
open Go.RowKit
set_option linter.unusedVariables false
set_option linter.unusedSimpArgs false
structure WDJ (w0 : World) (bw g b2 nd u j : Nat) (s : ByteArray) (hj : j < s.size) (PP : Int → Bool → World → Prop) (listed : Array Bool) (W : World) (y12 y13 y96 y97 y98 y99 y100 y101 y102 y103 y104 y105 y106 y107 y108 : Value) : Prop where
 f0 : listed.getD 0 true = true → y97 = .agg #[.pointer (some ⟨g, 0, none⟩)]
 f1 : listed.getD 1 true = true → y98 = .pointer (some ⟨b2, nd * 4, none⟩)
 f2 : listed.getD 2 true = true → y99 = .pointer (some ⟨b2, nd * 4, none⟩)
 f3 : listed.getD 3 true = true → y100 = .pointer (some ⟨b2, nd * 4 + 3, none⟩)
 f4 : listed.getD 4 true = true → y101 = .int .i64 (u : Int)
 f5 : listed.getD 5 true = true → y102 = .string s
 f6 : listed.getD 6 true = true → y103 = .int .i64 (j : Int)
 f7 : listed.getD 7 true = true → y104 = .int .u8 (((s[j]'hj).toNat : Nat) : Int)
 f8 : listed.getD 8 true = true → y105 = .int .i64 (((s[j]'hj).toNat : Nat) : Int)
 f9 : listed.getD 9 true = true → ∃ s : Int × Bool, y106 = .tuple #[.int .i64 s.1, .bool s.2] ∧ PP s.1 s.2 W
 f10 : listed.getD 10 true = true → ∃ s : Int × Bool, y96 = .tuple #[.int .i64 s.1, .bool s.2] ∧ PP s.1 s.2 W
 f11 : listed.getD 11 true = true → ∃ s : Int × Bool, y107 = .int .i64 s.1 ∧ PP s.1 s.2 W
 f12 : listed.getD 12 true = true → ∃ s : Int × Bool, y108 = .bool s.2 ∧ PP s.1 s.2 W
 f13 : listed.getD 13 true = true → ∃ s : Int × Bool, y12 = .int .i64 s.1 ∧ PP s.1 s.2 W
 f14 : listed.getD 14 true = true → ∃ s : Int × Bool, y13 = .bool s.2 ∧ PP s.1 s.2 W
 q9_4 : listed.getD 9 true = true → listed.getD 4 true = true
 q9_0 : listed.getD 9 true = true → listed.getD 0 true = true
 q10_9 : listed.getD 10 true = true → listed.getD 9 true = true
 q11_10 : listed.getD 11 true = true → listed.getD 10 true = true
 q12_10 : listed.getD 12 true = true → listed.getD 10 true = true
 q13_11 : listed.getD 13 true = true → listed.getD 11 true = true
 q14_12 : listed.getD 14 true = true → listed.getD 12 true = true
 w : listed.getD 9 true = false → W = w0
noncomputable def writeDevC : Code := ((Tryd.f122.body.bind (regAt 17)).getD .skip)
set_option maxRecDepth 1000000 in
set_option maxHeartbeats 8000000 in
theorem writeDev (w0 : World) (bw g b2 nd u j : Nat) (s : ByteArray) (hj : j < s.size) (PP : Int → Bool → World → Prop) {v0 v1 v4 v5 v6 v7 v8 v9 v12 v13 v14 v15 v16 v17 v18 v19 v20 v21 v22 v23 v24 v25 v26 v27 v28 v29 v30 v31 v32 v33 v34 v35 v36 v37 v38 v39 v40 v41 v42 v43 v44 v45 v46 v47 v48 v49 v50 v51 v52 v53 v54 v55 v56 v57 v58 v59 v60 v61 v62 v63 v64 v65 v66 v67 v68 v69 v70 v71 v72 v73 v74 v75 v76 v77 v78 v79 v80 v81 v82 v83 v84 v85 v86 v87 v88 v89 v90 v91 v92 v93 v94 v95 v96 v97 v98 v99 v100 v101 v102 v103 v104 v105 v106 v107 v108 v109 v110 v111 v112 v113 v114 v115 v116 v117 v118 v119 v120 v121 v122 v123 v124 v125 v126 v127 v128 v129 v130 v131 v132 v133 v134 v135 v136 v137 v138 v139 v140 v141 v142 v143 v144 v145 v146 v147 v148 v149 v150 v151 v152 v153 v154 v155 v156 v157 v158 v159 v160 v161 v162 v163 v164 v165 v166 v167 : Value} (wr : World) (Q : Exit → Act → World → Prop) (hlw : bw < w0.heap.size) (hw0 : w0.cell? ⟨bw, 0, none⟩ = some (.pointer (some ⟨g, 0, none⟩))) (hlb : b2 < w0.heap.size) (hn3 : w0.cell? ⟨b2, nd * 4 + 3, none⟩ = some (.int .i64 (u : Int))) (hwi : IntKind.i64.wrap ((((s[j]'hj).toNat : Nat)) : Int) = (((s[j]'hj).toNat : Nat) : Int)) (hwr : wrap64 ((((s[j]'hj).toNat : Nat)) : Int) = (((s[j]'hj).toNat : Nat) : Int)) (hcall : Calls Tryd.prog 140 #[.agg #[.pointer (some ⟨g, 0, none⟩)], .int .i64 (u : Int), .int .i64 (((s[j]'hj).toNat : Nat) : Int)] w0 fun e w' => ∃ v b, e = .returned (.tuple #[.int .i64 v, .bool b]) ∧ PP v b w') (hw00 : wr.drew = w0)
  (hQ : ∀ (listed : Array Bool) (W : World) (y12 y13 y96 y97 y98 y99 y100 y101 y102 y103 y104 y105 y106 y107 y108 : Value), (∀ i, i < 15 → listed.getD i true = true) → WDJ w0 bw g b2 nd u j s hj PP listed W y12 y13 y96 y97 y98 y99 y100 y101 y102 y103 y104 y105 y106 y107 y108 → Q .normal ⟨#[v0, v1, .string s, .pointer (some ⟨bw, 0, none⟩), v4, v5, v6, v7, v8, v9, .pointer (some ⟨b2, nd * 4, none⟩), .int .i64 (j : Int), y12, y13, v14, v15, v16, v17, v18, v19, v20, v21, v22, v23, v24, v25, v26, v27, v28, v29, v30, v31, v32, v33, v34, v35, v36, v37, v38, v39, v40, v41, v42, v43, v44, v45, v46, v47, v48, v49, v50, v51, v52, v53, v54, v55, v56, v57, v58, v59, v60, v61, v62, v63, v64, v65, v66, v67, v68, v69, v70, v71, v72, v73, v74, v75, v76, v77, v78, v79, v80, v81, v82, v83, v84, v85, v86, v87, v88, v89, v90, v91, v92, v93, v94, v95, y96, y97, y98, y99, y100, y101, y102, y103, y104, y105, y106, y107, y108, v109, v110, v111, v112, v113, v114, v115, v116, v117, v118, v119, v120, v121, v122, v123, v124, v125, v126, v127, v128, v129, v130, v131, v132, v133, v134, v135, v136, v137, v138, v139, v140, v141, v142, v143, v144, v145, v146, v147, v148, v149, v150, v151, v152, v153, v154, v155, v156, v157, v158, v159, v160, v161, v162, v163, v164, v165, v166, v167], []⟩ W) :
  Code.wp Tryd.prog writeDevC Q ⟨#[v0, v1, .string s, .pointer (some ⟨bw, 0, none⟩), v4, v5, v6, v7, v8, v9, .pointer (some ⟨b2, nd * 4, none⟩), .int .i64 (j : Int), v12, v13, v14, v15, v16, v17, v18, v19, v20, v21, v22, v23, v24, v25, v26, v27, v28, v29, v30, v31, v32, v33, v34, v35, v36, v37, v38, v39, v40, v41, v42, v43, v44, v45, v46, v47, v48, v49, v50, v51, v52, v53, v54, v55, v56, v57, v58, v59, v60, v61, v62, v63, v64, v65, v66, v67, v68, v69, v70, v71, v72, v73, v74, v75, v76, v77, v78, v79, v80, v81, v82, v83, v84, v85, v86, v87, v88, v89, v90, v91, v92, v93, v94, v95, v96, v97, v98, v99, v100, v101, v102, v103, v104, v105, v106, v107, v108, v109, v110, v111, v112, v113, v114, v115, v116, v117, v118, v119, v120, v121, v122, v123, v124, v125, v126, v127, v128, v129, v130, v131, v132, v133, v134, v135, v136, v137, v138, v139, v140, v141, v142, v143, v144, v145, v146, v147, v148, v149, v150, v151, v152, v153, v154, v155, v156, v157, v158, v159, v160, v161, v162, v163, v164, v165, v166, v167], []⟩ wr := by
 have HQ := Lib.hid hQ
 clear hQ
 conv => arg 2; whnf
 refine wp_region_invB (fun listed a W => ∃ y12 y13 y96 y97 y98 y99 y100 y101 y102 y103 y104 y105 y106 y107 y108, WDJ w0 bw g b2 nd u j s hj PP listed W y12 y13 y96 y97 y98 y99 y100 y101 y102 y103 y104 y105 y106 y107 y108 ∧ a = ⟨#[v0, v1, .string s, .pointer (some ⟨bw, 0, none⟩), v4, v5, v6, v7, v8, v9, .pointer (some ⟨b2, nd * 4, none⟩), .int .i64 (j : Int), y12, y13, v14, v15, v16, v17, v18, v19, v20, v21, v22, v23, v24, v25, v26, v27, v28, v29, v30, v31, v32, v33, v34, v35, v36, v37, v38, v39, v40, v41, v42, v43, v44, v45, v46, v47, v48, v49, v50, v51, v52, v53, v54, v55, v56, v57, v58, v59, v60, v61, v62, v63, v64, v65, v66, v67, v68, v69, v70, v71, v72, v73, v74, v75, v76, v77, v78, v79, v80, v81, v82, v83, v84, v85, v86, v87, v88, v89, v90, v91, v92, v93, v94, v95, y96, y97, y98, y99, y100, y101, y102, y103, y104, y105, y106, y107, y108, v109, v110, v111, v112, v113, v114, v115, v116, v117, v118, v119, v120, v121, v122, v123, v124, v125, v126, v127, v128, v129, v130, v131, v132, v133, v134, v135, v136, v137, v138, v139, v140, v141, v142, v143, v144, v145, v146, v147, v148, v149, v150, v151, v152, v153, v154, v155, v156, v157, v158, v159, v160, v161, v162, v163, v164, v165, v166, v167], []⟩) (by kernel_rfl) (ord_ofB (by kernel_rfl)) ?start ?step ?fin
 case start => exact ⟨_, _, _, _, _, _, _, _, _, _, _, _, _, _, _, ⟨fun h => absurd h (by decide), fun h => absurd h (by decide), fun h => absurd h (by decide), fun h => absurd h (by decide), fun h => absurd h (by decide), fun h => absurd h (by decide), fun h => absurd h (by decide), fun h => absurd h (by decide), fun h => absurd h (by decide), fun h => absurd h (by decide), fun h => absurd h (by decide), fun h => absurd h (by decide), fun h => absurd h (by decide), fun h => absurd h (by decide), fun h => absurd h (by decide), fun h => absurd h (by decide), fun h => absurd h (by decide), fun h => absurd h (by decide), fun h => absurd h (by decide), fun h => absurd h (by decide), fun h => absurd h (by decide), fun h => absurd h (by decide), fun _ => hw00⟩, rfl⟩
 case step =>
  intro i o ho listed a W hl haf hI K hK
  obtain ⟨y12, y13, y96, y97, y98, y99, y100, y101, y102, y103, y104, y105, y106, y107, y108, hJ, rfl⟩ := hI
  have hi : i < 15 := (Array.getElem?_eq_some_iff.1 ho).1
  have h16 : i = 0 ∨ i = 1 ∨ i = 2 ∨ i = 3 ∨ i = 4 ∨ i = 5 ∨ i = 6 ∨ i = 7 ∨ i = 8 ∨ i = 9 ∨ i = 10 ∨ i = 11 ∨ i = 12 ∨ i = 13 ∨ i = 14 := by omega
  rcases h16 with rfl | rfl | rfl | rfl | rfl | rfl | rfl | rfl | rfl | rfl | rfl | rfl | rfl | rfl | rfl
  ·have ho' := Option.some.inj ho
   subst ho'
   obtain rfl : W = w0 := hJ.w (by rw [← Bool.not_eq_true]; intro e; have := hJ.q9_0 e; rw [hl] at this; cases this)
   have HJ := Lib.hid hJ
   clear hJ haf
   try unfold pt
   go_simp
   have hJ := HJ.out
   exact hK _ _ ⟨_, _, _, _, _, _, _, _, _, _, _, _, _, _, _, ⟨fun _ => rfl, fun x => hJ.f1 (upneR (by decide) x), fun x => hJ.f2 (upneR (by decide) x), fun x => hJ.f3 (upneR (by decide) x), fun x => hJ.f4 (upneR (by decide) x), fun x => hJ.f5 (upneR (by decide) x), fun x => hJ.f6 (upneR (by decide) x), fun x => hJ.f7 (upneR (by decide) x), fun x => hJ.f8 (upneR (by decide) x), fun x => hJ.f9 (upneR (by decide) x), fun x => hJ.f10 (upneR (by decide) x), fun x => hJ.f11 (upneR (by decide) x), fun x => hJ.f12 (upneR (by decide) x), fun x => hJ.f13 (upneR (by decide) x), fun x => hJ.f14 (upneR (by decide) x), fun x => by rw [upeqR (by decide)]; exact hJ.q9_4 (upneR (by decide) x), fun _ => upselfR, fun x => by rw [upeqR (by decide)]; exact hJ.q10_9 (upneR (by decide) x), fun x => by rw [upeqR (by decide)]; exact hJ.q11_10 (upneR (by decide) x), fun x => by rw [upeqR (by decide)]; exact hJ.q12_10 (upneR (by decide) x), fun x => by rw [upeqR (by decide)]; exact hJ.q13_11 (upneR (by decide) x), fun x => by rw [upeqR (by decide)]; exact hJ.q14_12 (upneR (by decide) x), (fun h => hJ.w (by rw [upeqR (by decide)] at h; exact h))⟩, rfl⟩
  ·have ho' := Option.some.inj ho
   subst ho'
   have HJ := Lib.hid hJ
   clear hJ haf
   try unfold pt
   go_simp
   have hJ := HJ.out
   exact hK _ _ ⟨_, _, _, _, _, _, _, _, _, _, _, _, _, _, _, ⟨fun x => hJ.f0 (upneR (by decide) x), fun _ => rfl, fun x => hJ.f2 (upneR (by decide) x), fun x => hJ.f3 (upneR (by decide) x), fun x => hJ.f4 (upneR (by decide) x), fun x => hJ.f5 (upneR (by decide) x), fun x => hJ.f6 (upneR (by decide) x), fun x => hJ.f7 (upneR (by decide) x), fun x => hJ.f8 (upneR (by decide) x), fun x => hJ.f9 (upneR (by decide) x), fun x => hJ.f10 (upneR (by decide) x), fun x => hJ.f11 (upneR (by decide) x), fun x => hJ.f12 (upneR (by decide) x), fun x => hJ.f13 (upneR (by decide) x), fun x => hJ.f14 (upneR (by decide) x), fun x => by rw [upeqR (by decide)]; exact hJ.q9_4 (upneR (by decide) x), fun x => by rw [upeqR (by decide)]; exact hJ.q9_0 (upneR (by decide) x), fun x => by rw [upeqR (by decide)]; exact hJ.q10_9 (upneR (by decide) x), fun x => by rw [upeqR (by decide)]; exact hJ.q11_10 (upneR (by decide) x), fun x => by rw [upeqR (by decide)]; exact hJ.q12_10 (upneR (by decide) x), fun x => by rw [upeqR (by decide)]; exact hJ.q13_11 (upneR (by decide) x), fun x => by rw [upeqR (by decide)]; exact hJ.q14_12 (upneR (by decide) x), (fun h => hJ.w (by rw [upeqR (by decide)] at h; exact h))⟩, rfl⟩
  ·have ho' := Option.some.inj ho
   subst ho'
   simp [Region.binds] at haf
   have p1 : listed.getD 1 true = true := waitsR (by simp [haf])
   obtain rfl := hJ.f1 p1
   have HJ := Lib.hid hJ
   clear hJ haf
   try unfold pt
   go_simp
   have hJ := HJ.out
   exact hK _ _ ⟨_, _, _, _, _, _, _, _, _, _, _, _, _, _, _, ⟨fun x => hJ.f0 (upneR (by decide) x), fun x => hJ.f1 (upneR (by decide) x), fun _ => rfl, fun x => hJ.f3 (upneR (by decide) x), fun x => hJ.f4 (upneR (by decide) x), fun x => hJ.f5 (upneR (by decide) x), fun x => hJ.f6 (upneR (by decide) x), fun x => hJ.f7 (upneR (by decide) x), fun x => hJ.f8 (upneR (by decide) x), fun x => hJ.f9 (upneR (by decide) x), fun x => hJ.f10 (upneR (by decide) x), fun x => hJ.f11 (upneR (by decide) x), fun x => hJ.f12 (upneR (by decide) x), fun x => hJ.f13 (upneR (by decide) x), fun x => hJ.f14 (upneR (by decide) x), fun x => by rw [upeqR (by decide)]; exact hJ.q9_4 (upneR (by decide) x), fun x => by rw [upeqR (by decide)]; exact hJ.q9_0 (upneR (by decide) x), fun x => by rw [upeqR (by decide)]; exact hJ.q10_9 (upneR (by decide) x), fun x => by rw [upeqR (by decide)]; exact hJ.q11_10 (upneR (by decide) x), fun x => by rw [upeqR (by decide)]; exact hJ.q12_10 (upneR (by decide) x), fun x => by rw [upeqR (by decide)]; exact hJ.q13_11 (upneR (by decide) x), fun x => by rw [upeqR (by decide)]; exact hJ.q14_12 (upneR (by decide) x), (fun h => hJ.w (by rw [upeqR (by decide)] at h; exact h))⟩, rfl⟩
  ·have ho' := Option.some.inj ho
   subst ho'
   simp [Region.binds] at haf
   have p2 : listed.getD 2 true = true := waitsR (by simp [haf])
   obtain rfl := hJ.f2 p2
   have HJ := Lib.hid hJ
   clear hJ haf
   try unfold pt
   go_simp
   have hJ := HJ.out
   exact hK _ _ ⟨_, _, _, _, _, _, _, _, _, _, _, _, _, _, _, ⟨fun x => hJ.f0 (upneR (by decide) x), fun x => hJ.f1 (upneR (by decide) x), fun x => hJ.f2 (upneR (by decide) x), fun _ => rfl, fun x => hJ.f4 (upneR (by decide) x), fun x => hJ.f5 (upneR (by decide) x), fun x => hJ.f6 (upneR (by decide) x), fun x => hJ.f7 (upneR (by decide) x), fun x => hJ.f8 (upneR (by decide) x), fun x => hJ.f9 (upneR (by decide) x), fun x => hJ.f10 (upneR (by decide) x), fun x => hJ.f11 (upneR (by decide) x), fun x => hJ.f12 (upneR (by decide) x), fun x => hJ.f13 (upneR (by decide) x), fun x => hJ.f14 (upneR (by decide) x), fun x => by rw [upeqR (by decide)]; exact hJ.q9_4 (upneR (by decide) x), fun x => by rw [upeqR (by decide)]; exact hJ.q9_0 (upneR (by decide) x), fun x => by rw [upeqR (by decide)]; exact hJ.q10_9 (upneR (by decide) x), fun x => by rw [upeqR (by decide)]; exact hJ.q11_10 (upneR (by decide) x), fun x => by rw [upeqR (by decide)]; exact hJ.q12_10 (upneR (by decide) x), fun x => by rw [upeqR (by decide)]; exact hJ.q13_11 (upneR (by decide) x), fun x => by rw [upeqR (by decide)]; exact hJ.q14_12 (upneR (by decide) x), (fun h => hJ.w (by rw [upeqR (by decide)] at h; exact h))⟩, rfl⟩
  ·have ho' := Option.some.inj ho
   subst ho'
   simp [Region.binds] at haf
   have p3 : listed.getD 3 true = true := waitsR (by simp [haf])
   obtain rfl := hJ.f3 p3
   obtain rfl : W = w0 := hJ.w (by rw [← Bool.not_eq_true]; intro e; have := hJ.q9_4 e; rw [hl] at this; cases this)
   have HJ := Lib.hid hJ
   clear hJ haf
   try unfold pt
   go_simp
   have hJ := HJ.out
   exact hK _ _ ⟨_, _, _, _, _, _, _, _, _, _, _, _, _, _, _, ⟨fun x => hJ.f0 (upneR (by decide) x), fun x => hJ.f1 (upneR (by decide) x), fun x => hJ.f2 (upneR (by decide) x), fun x => hJ.f3 (upneR (by decide) x), fun _ => rfl, fun x => hJ.f5 (upneR (by decide) x), fun x => hJ.f6 (upneR (by decide) x), fun x => hJ.f7 (upneR (by decide) x), fun x => hJ.f8 (upneR (by decide) x), fun x => hJ.f9 (upneR (by decide) x), fun x => hJ.f10 (upneR (by decide) x), fun x => hJ.f11 (upneR (by decide) x), fun x => hJ.f12 (upneR (by decide) x), fun x => hJ.f13 (upneR (by decide) x), fun x => hJ.f14 (upneR (by decide) x), fun _ => upselfR, fun x => by rw [upeqR (by decide)]; exact hJ.q9_0 (upneR (by decide) x), fun x => by rw [upeqR (by decide)]; exact hJ.q10_9 (upneR (by decide) x), fun x => by rw [upeqR (by decide)]; exact hJ.q11_10 (upneR (by decide) x), fun x => by rw [upeqR (by decide)]; exact hJ.q12_10 (upneR (by decide) x), fun x => by rw [upeqR (by decide)]; exact hJ.q13_11 (upneR (by decide) x), fun x => by rw [upeqR (by decide)]; exact hJ.q14_12 (upneR (by decide) x), (fun h => hJ.w (by rw [upeqR (by decide)] at h; exact h))⟩, rfl⟩
  ·have ho' := Option.some.inj ho
   subst ho'
   have HJ := Lib.hid hJ
   clear hJ haf
   try unfold pt
   go_simp
   have hJ := HJ.out
   exact hK _ _ ⟨_, _, _, _, _, _, _, _, _, _, _, _, _, _, _, ⟨fun x => hJ.f0 (upneR (by decide) x), fun x => hJ.f1 (upneR (by decide) x), fun x => hJ.f2 (upneR (by decide) x), fun x => hJ.f3 (upneR (by decide) x), fun x => hJ.f4 (upneR (by decide) x), fun _ => rfl, fun x => hJ.f6 (upneR (by decide) x), fun x => hJ.f7 (upneR (by decide) x), fun x => hJ.f8 (upneR (by decide) x), fun x => hJ.f9 (upneR (by decide) x), fun x => hJ.f10 (upneR (by decide) x), fun x => hJ.f11 (upneR (by decide) x), fun x => hJ.f12 (upneR (by decide) x), fun x => hJ.f13 (upneR (by decide) x), fun x => hJ.f14 (upneR (by decide) x), fun x => by rw [upeqR (by decide)]; exact hJ.q9_4 (upneR (by decide) x), fun x => by rw [upeqR (by decide)]; exact hJ.q9_0 (upneR (by decide) x), fun x => by rw [upeqR (by decide)]; exact hJ.q10_9 (upneR (by decide) x), fun x => by rw [upeqR (by decide)]; exact hJ.q11_10 (upneR (by decide) x), fun x => by rw [upeqR (by decide)]; exact hJ.q12_10 (upneR (by decide) x), fun x => by rw [upeqR (by decide)]; exact hJ.q13_11 (upneR (by decide) x), fun x => by rw [upeqR (by decide)]; exact hJ.q14_12 (upneR (by decide) x), (fun h => hJ.w (by rw [upeqR (by decide)] at h; exact h))⟩, rfl⟩
  ·have ho' := Option.some.inj ho
   subst ho'
   have HJ := Lib.hid hJ
   clear hJ haf
   try unfold pt
   go_simp
   have hJ := HJ.out
   exact hK _ _ ⟨_, _, _, _, _, _, _, _, _, _, _, _, _, _, _, ⟨fun x => hJ.f0 (upneR (by decide) x), fun x => hJ.f1 (upneR (by decide) x), fun x => hJ.f2 (upneR (by decide) x), fun x => hJ.f3 (upneR (by decide) x), fun x => hJ.f4 (upneR (by decide) x), fun x => hJ.f5 (upneR (by decide) x), fun _ => rfl, fun x => hJ.f7 (upneR (by decide) x), fun x => hJ.f8 (upneR (by decide) x), fun x => hJ.f9 (upneR (by decide) x), fun x => hJ.f10 (upneR (by decide) x), fun x => hJ.f11 (upneR (by decide) x), fun x => hJ.f12 (upneR (by decide) x), fun x => hJ.f13 (upneR (by decide) x), fun x => hJ.f14 (upneR (by decide) x), fun x => by rw [upeqR (by decide)]; exact hJ.q9_4 (upneR (by decide) x), fun x => by rw [upeqR (by decide)]; exact hJ.q9_0 (upneR (by decide) x), fun x => by rw [upeqR (by decide)]; exact hJ.q10_9 (upneR (by decide) x), fun x => by rw [upeqR (by decide)]; exact hJ.q11_10 (upneR (by decide) x), fun x => by rw [upeqR (by decide)]; exact hJ.q12_10 (upneR (by decide) x), fun x => by rw [upeqR (by decide)]; exact hJ.q13_11 (upneR (by decide) x), fun x => by rw [upeqR (by decide)]; exact hJ.q14_12 (upneR (by decide) x), (fun h => hJ.w (by rw [upeqR (by decide)] at h; exact h))⟩, rfl⟩
  ·have ho' := Option.some.inj ho
   subst ho'
   simp [Region.binds] at haf
   have p5 : listed.getD 5 true = true := waitsR (by simp [haf])
   have p6 : listed.getD 6 true = true := waitsR (by simp [haf])
   obtain rfl := hJ.f5 p5
   obtain rfl := hJ.f6 p6
   have hji : (j : Int) < (s.size : Int) := by omega
   have HJ := Lib.hid hJ
   clear hJ haf
   try unfold pt
   go_simp
   have hJ := HJ.out
   exact hK _ _ ⟨_, _, _, _, _, _, _, _, _, _, _, _, _, _, _, ⟨fun x => hJ.f0 (upneR (by decide) x), fun x => hJ.f1 (upneR (by decide) x), fun x => hJ.f2 (upneR (by decide) x), fun x => hJ.f3 (upneR (by decide) x), fun x => hJ.f4 (upneR (by decide) x), fun x => hJ.f5 (upneR (by decide) x), fun x => hJ.f6 (upneR (by decide) x), fun _ => rfl, fun x => hJ.f8 (upneR (by decide) x), fun x => hJ.f9 (upneR (by decide) x), fun x => hJ.f10 (upneR (by decide) x), fun x => hJ.f11 (upneR (by decide) x), fun x => hJ.f12 (upneR (by decide) x), fun x => hJ.f13 (upneR (by decide) x), fun x => hJ.f14 (upneR (by decide) x), fun x => by rw [upeqR (by decide)]; exact hJ.q9_4 (upneR (by decide) x), fun x => by rw [upeqR (by decide)]; exact hJ.q9_0 (upneR (by decide) x), fun x => by rw [upeqR (by decide)]; exact hJ.q10_9 (upneR (by decide) x), fun x => by rw [upeqR (by decide)]; exact hJ.q11_10 (upneR (by decide) x), fun x => by rw [upeqR (by decide)]; exact hJ.q12_10 (upneR (by decide) x), fun x => by rw [upeqR (by decide)]; exact hJ.q13_11 (upneR (by decide) x), fun x => by rw [upeqR (by decide)]; exact hJ.q14_12 (upneR (by decide) x), (fun h => hJ.w (by rw [upeqR (by decide)] at h; exact h))⟩, rfl⟩
  ·have ho' := Option.some.inj ho
   subst ho'
   simp [Region.binds] at haf
   have p7 : listed.getD 7 true = true := waitsR (by simp [haf])
   obtain rfl := hJ.f7 p7
   have HJ := Lib.hid hJ
   clear hJ haf
   try unfold pt
   go_simp
   try simp only [hwr, hwi]
   have hJ := HJ.out
   exact hK _ _ ⟨_, _, _, _, _, _, _, _, _, _, _, _, _, _, _, ⟨fun x => hJ.f0 (upneR (by decide) x), fun x => hJ.f1 (upneR (by decide) x), fun x => hJ.f2 (upneR (by decide) x), fun x => hJ.f3 (upneR (by decide) x), fun x => hJ.f4 (upneR (by decide) x), fun x => hJ.f5 (upneR (by decide) x), fun x => hJ.f6 (upneR (by decide) x), fun x => hJ.f7 (upneR (by decide) x), fun _ => rfl, fun x => hJ.f9 (upneR (by decide) x), fun x => hJ.f10 (upneR (by decide) x), fun x => hJ.f11 (upneR (by decide) x), fun x => hJ.f12 (upneR (by decide) x), fun x => hJ.f13 (upneR (by decide) x), fun x => hJ.f14 (upneR (by decide) x), fun x => by rw [upeqR (by decide)]; exact hJ.q9_4 (upneR (by decide) x), fun x => by rw [upeqR (by decide)]; exact hJ.q9_0 (upneR (by decide) x), fun x => by rw [upeqR (by decide)]; exact hJ.q10_9 (upneR (by decide) x), fun x => by rw [upeqR (by decide)]; exact hJ.q11_10 (upneR (by decide) x), fun x => by rw [upeqR (by decide)]; exact hJ.q12_10 (upneR (by decide) x), fun x => by rw [upeqR (by decide)]; exact hJ.q13_11 (upneR (by decide) x), fun x => by rw [upeqR (by decide)]; exact hJ.q14_12 (upneR (by decide) x), (fun h => hJ.w (by rw [upeqR (by decide)] at h; exact h))⟩, rfl⟩
  ·have ho' := Option.some.inj ho
   subst ho'
   simp [Region.binds] at haf
   have p0 : listed.getD 0 true = true := waitsR (by simp [haf])
   have p4 : listed.getD 4 true = true := waitsR (by simp [haf])
   have p8 : listed.getD 8 true = true := waitsR (by simp [haf])
   obtain rfl := hJ.f0 p0
   obtain rfl := hJ.f4 p4
   obtain rfl := hJ.f8 p8
   obtain rfl : W = w0 := hJ.w hl
   have HJ := Lib.hid hJ
   clear hJ haf
   try unfold pt
   go_simp
   go_at_call 140
   refine hcall.mono ?_
   rintro e' w2 ⟨v, b, rfl, hP⟩
   have hJ := HJ.out
   exact hK _ _ ⟨_, _, _, _, _, _, _, _, _, _, _, _, _, _, _, ⟨fun x => hJ.f0 (upneR (by decide) x), fun x => hJ.f1 (upneR (by decide) x), fun x => hJ.f2 (upneR (by decide) x), fun x => hJ.f3 (upneR (by decide) x), fun x => hJ.f4 (upneR (by decide) x), fun x => hJ.f5 (upneR (by decide) x), fun x => hJ.f6 (upneR (by decide) x), fun x => hJ.f7 (upneR (by decide) x), fun x => hJ.f8 (upneR (by decide) x), fun _ => ⟨(v, b), rfl, hP⟩, fun x => by have e := upneR (by decide) x; have e := hJ.q10_9 e; rw [hl] at e; exact absurd e (by decide), fun x => by have e := upneR (by decide) x; have e := hJ.q11_10 e; have e := hJ.q10_9 e; rw [hl] at e; exact absurd e (by decide), fun x => by have e := upneR (by decide) x; have e := hJ.q12_10 e; have e := hJ.q10_9 e; rw [hl] at e; exact absurd e (by decide), fun x => by have e := upneR (by decide) x; have e := hJ.q13_11 e; have e := hJ.q11_10 e; have e := hJ.q10_9 e; rw [hl] at e; exact absurd e (by decide), fun x => by have e := upneR (by decide) x; have e := hJ.q14_12 e; have e := hJ.q12_10 e; have e := hJ.q10_9 e; rw [hl] at e; exact absurd e (by decide), fun _ => by rw [upeqR (by decide)]; exact p4, fun _ => by rw [upeqR (by decide)]; exact p0, fun _ => upselfR, fun x => by rw [upeqR (by decide)]; exact hJ.q11_10 (upneR (by decide) x), fun x => by rw [upeqR (by decide)]; exact hJ.q12_10 (upneR (by decide) x), fun x => by rw [upeqR (by decide)]; exact hJ.q13_11 (upneR (by decide) x), fun x => by rw [upeqR (by decide)]; exact hJ.q14_12 (upneR (by decide) x), (fun h => absurd h (by rw [upselfR]; decide))⟩, rfl⟩
  ·have ho' := Option.some.inj ho
   subst ho'
   simp [Region.binds] at haf
   have p9 : listed.getD 9 true = true := waitsR (by simp [haf])
   obtain ⟨s9, rfl, hE9⟩ := hJ.f9 p9
   have HJ := Lib.hid hJ
   clear hJ haf
   try unfold pt
   go_simp
   have hJ := HJ.out
   exact hK _ _ ⟨_, _, _, _, _, _, _, _, _, _, _, _, _, _, _, ⟨fun x => hJ.f0 (upneR (by decide) x), fun x => hJ.f1 (upneR (by decide) x), fun x => hJ.f2 (upneR (by decide) x), fun x => hJ.f3 (upneR (by decide) x), fun x => hJ.f4 (upneR (by decide) x), fun x => hJ.f5 (upneR (by decide) x), fun x => hJ.f6 (upneR (by decide) x), fun x => hJ.f7 (upneR (by decide) x), fun x => hJ.f8 (upneR (by decide) x), fun x => hJ.f9 (upneR (by decide) x), fun _ => ⟨s9, rfl, hE9⟩, fun x => hJ.f11 (upneR (by decide) x), fun x => hJ.f12 (upneR (by decide) x), fun x => hJ.f13 (upneR (by decide) x), fun x => hJ.f14 (upneR (by decide) x), fun x => by rw [upeqR (by decide)]; exact hJ.q9_4 (upneR (by decide) x), fun x => by rw [upeqR (by decide)]; exact hJ.q9_0 (upneR (by decide) x), fun _ => by rw [upeqR (by decide)]; exact p9, fun _ => upselfR, fun _ => upselfR, fun x => by rw [upeqR (by decide)]; exact hJ.q13_11 (upneR (by decide) x), fun x => by rw [upeqR (by decide)]; exact hJ.q14_12 (upneR (by decide) x), (fun h => hJ.w (by rw [upeqR (by decide)] at h; exact h))⟩, rfl⟩
  ·have ho' := Option.some.inj ho
   subst ho'
   simp [Region.binds] at haf
   have p10 : listed.getD 10 true = true := waitsR (by simp [haf])
   obtain ⟨s10, rfl, hE10⟩ := hJ.f10 p10
   have HJ := Lib.hid hJ
   clear hJ haf
   try unfold pt
   go_simp
   have hJ := HJ.out
   exact hK _ _ ⟨_, _, _, _, _, _, _, _, _, _, _, _, _, _, _, ⟨fun x => hJ.f0 (upneR (by decide) x), fun x => hJ.f1 (upneR (by decide) x), fun x => hJ.f2 (upneR (by decide) x), fun x => hJ.f3 (upneR (by decide) x), fun x => hJ.f4 (upneR (by decide) x), fun x => hJ.f5 (upneR (by decide) x), fun x => hJ.f6 (upneR (by decide) x), fun x => hJ.f7 (upneR (by decide) x), fun x => hJ.f8 (upneR (by decide) x), fun x => hJ.f9 (upneR (by decide) x), fun x => hJ.f10 (upneR (by decide) x), fun _ => ⟨s10, rfl, hE10⟩, fun x => hJ.f12 (upneR (by decide) x), fun x => hJ.f13 (upneR (by decide) x), fun x => hJ.f14 (upneR (by decide) x), fun x => by rw [upeqR (by decide)]; exact hJ.q9_4 (upneR (by decide) x), fun x => by rw [upeqR (by decide)]; exact hJ.q9_0 (upneR (by decide) x), fun x => by rw [upeqR (by decide)]; exact hJ.q10_9 (upneR (by decide) x), fun _ => by rw [upeqR (by decide)]; exact p10, fun x => by rw [upeqR (by decide)]; exact hJ.q12_10 (upneR (by decide) x), fun _ => upselfR, fun x => by rw [upeqR (by decide)]; exact hJ.q14_12 (upneR (by decide) x), (fun h => hJ.w (by rw [upeqR (by decide)] at h; exact h))⟩, rfl⟩
  ·have ho' := Option.some.inj ho
   subst ho'
   simp [Region.binds] at haf
   have p10 : listed.getD 10 true = true := waitsR (by simp [haf])
   obtain ⟨s10, rfl, hE10⟩ := hJ.f10 p10
   have HJ := Lib.hid hJ
   clear hJ haf
   try unfold pt
   go_simp
   have hJ := HJ.out
   exact hK _ _ ⟨_, _, _, _, _, _, _, _, _, _, _, _, _, _, _, ⟨fun x => hJ.f0 (upneR (by decide) x), fun x => hJ.f1 (upneR (by decide) x), fun x => hJ.f2 (upneR (by decide) x), fun x => hJ.f3 (upneR (by decide) x), fun x => hJ.f4 (upneR (by decide) x), fun x => hJ.f5 (upneR (by decide) x), fun x => hJ.f6 (upneR (by decide) x), fun x => hJ.f7 (upneR (by decide) x), fun x => hJ.f8 (upneR (by decide) x), fun x => hJ.f9 (upneR (by decide) x), fun x => hJ.f10 (upneR (by decide) x), fun x => hJ.f11 (upneR (by decide) x), fun _ => ⟨s10, rfl, hE10⟩, fun x => hJ.f13 (upneR (by decide) x), fun x => hJ.f14 (upneR (by decide) x), fun x => by rw [upeqR (by decide)]; exact hJ.q9_4 (upneR (by decide) x), fun x => by rw [upeqR (by decide)]; exact hJ.q9_0 (upneR (by decide) x), fun x => by rw [upeqR (by decide)]; exact hJ.q10_9 (upneR (by decide) x), fun x => by rw [upeqR (by decide)]; exact hJ.q11_10 (upneR (by decide) x), fun _ => by rw [upeqR (by decide)]; exact p10, fun x => by rw [upeqR (by decide)]; exact hJ.q13_11 (upneR (by decide) x), fun _ => upselfR, (fun h => hJ.w (by rw [upeqR (by decide)] at h; exact h))⟩, rfl⟩
  ·have ho' := Option.some.inj ho
   subst ho'
   simp [Region.binds] at haf
   have p11 : listed.getD 11 true = true := waitsR (by simp [haf])
   obtain ⟨s11, rfl, hE11⟩ := hJ.f11 p11
   have HJ := Lib.hid hJ
   clear hJ haf
   try unfold pt
   go_simp
   have hJ := HJ.out
   exact hK _ _ ⟨_, _, _, _, _, _, _, _, _, _, _, _, _, _, _, ⟨fun x => hJ.f0 (upneR (by decide) x), fun x => hJ.f1 (upneR (by decide) x), fun x => hJ.f2 (upneR (by decide) x), fun x => hJ.f3 (upneR (by decide) x), fun x => hJ.f4 (upneR (by decide) x), fun x => hJ.f5 (upneR (by decide) x), fun x => hJ.f6 (upneR (by decide) x), fun x => hJ.f7 (upneR (by decide) x), fun x => hJ.f8 (upneR (by decide) x), fun x => hJ.f9 (upneR (by decide) x), fun x => hJ.f10 (upneR (by decide) x), fun x => hJ.f11 (upneR (by decide) x), fun x => hJ.f12 (upneR (by decide) x), fun _ => ⟨s11, rfl, hE11⟩, fun x => hJ.f14 (upneR (by decide) x), fun x => by rw [upeqR (by decide)]; exact hJ.q9_4 (upneR (by decide) x), fun x => by rw [upeqR (by decide)]; exact hJ.q9_0 (upneR (by decide) x), fun x => by rw [upeqR (by decide)]; exact hJ.q10_9 (upneR (by decide) x), fun x => by rw [upeqR (by decide)]; exact hJ.q11_10 (upneR (by decide) x), fun x => by rw [upeqR (by decide)]; exact hJ.q12_10 (upneR (by decide) x), fun _ => by rw [upeqR (by decide)]; exact p11, fun x => by rw [upeqR (by decide)]; exact hJ.q14_12 (upneR (by decide) x), (fun h => hJ.w (by rw [upeqR (by decide)] at h; exact h))⟩, rfl⟩
  ·have ho' := Option.some.inj ho
   subst ho'
   simp [Region.binds] at haf
   have p12 : listed.getD 12 true = true := waitsR (by simp [haf])
   obtain ⟨s12, rfl, hE12⟩ := hJ.f12 p12
   have HJ := Lib.hid hJ
   clear hJ haf
   try unfold pt
   go_simp
   have hJ := HJ.out
   exact hK _ _ ⟨_, _, _, _, _, _, _, _, _, _, _, _, _, _, _, ⟨fun x => hJ.f0 (upneR (by decide) x), fun x => hJ.f1 (upneR (by decide) x), fun x => hJ.f2 (upneR (by decide) x), fun x => hJ.f3 (upneR (by decide) x), fun x => hJ.f4 (upneR (by decide) x), fun x => hJ.f5 (upneR (by decide) x), fun x => hJ.f6 (upneR (by decide) x), fun x => hJ.f7 (upneR (by decide) x), fun x => hJ.f8 (upneR (by decide) x), fun x => hJ.f9 (upneR (by decide) x), fun x => hJ.f10 (upneR (by decide) x), fun x => hJ.f11 (upneR (by decide) x), fun x => hJ.f12 (upneR (by decide) x), fun x => hJ.f13 (upneR (by decide) x), fun _ => ⟨s12, rfl, hE12⟩, fun x => by rw [upeqR (by decide)]; exact hJ.q9_4 (upneR (by decide) x), fun x => by rw [upeqR (by decide)]; exact hJ.q9_0 (upneR (by decide) x), fun x => by rw [upeqR (by decide)]; exact hJ.q10_9 (upneR (by decide) x), fun x => by rw [upeqR (by decide)]; exact hJ.q11_10 (upneR (by decide) x), fun x => by rw [upeqR (by decide)]; exact hJ.q12_10 (upneR (by decide) x), fun x => by rw [upeqR (by decide)]; exact hJ.q13_11 (upneR (by decide) x), fun _ => by rw [upeqR (by decide)]; exact p12, (fun h => hJ.w (by rw [upeqR (by decide)] at h; exact h))⟩, rfl⟩
 case fin =>
  intro listed a W hall hI
  obtain ⟨y12, y13, y96, y97, y98, y99, y100, y101, y102, y103, y104, y105, y106, y107, y108, hJ, rfl⟩ := hI
  exact HQ.out listed W _ _ _ _ _ _ _ _ _ _ _ _ _ _ _ hall hJ
end Go.Proofs.YtdjamdbamkhblacDoor
