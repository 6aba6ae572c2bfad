/- The drawn region of TopQuiet that makes the head of the scripts. No condition. By an AI agent (xtq.py). -/
import Derived.Test.YtdjamdbamkhblacDoorQuietH
import Derived.Test.YtdjamdbamkhblacDoorG37
import Derived.Test.YtdjamdbamkhblacDoorG09
import Derived.Test.YtdjamdbamkhblacDoorG21
namespace Go.Proofs.YtdjamdbamkhblacDoor
open Go.RowKit
set_option linter.unusedVariables false
set_option linter.unusedSimpArgs false
theorem RdA.aft {w w' : World} {A : Option Addr} {l : List Akt} (h : RdA w w.heap.size A l) (hb : Below w.heap.size w w') : RdA w' w'.heap.size A l := (h.below hb).more hb.size
def openA : List Akt := [⟨5, 0, 0, 0, oneS, noS⟩]
/-- Three slices in a block. -/
def Sls3 (W : World) (b : Nat) (x y z : Option Addr × Nat) (l1 l2 l3 : List Akt) : Prop := Sls W W.heap.size b [(x.1, x.2, l1), (y.1, y.2, l2), (z.1, z.2, l3)]
theorem Sls.aft {w w' : World} {b : Nat} {ls : List (Option Addr × Nat × List Akt)} (h : Sls w w.heap.size b ls) (hb : Below w.heap.size w w') : Sls w' w'.heap.size b ls :=
  ⟨Nat.lt_of_lt_of_le h.lt hb.size, fun q hq => (hb.cell h.lt).trans (h.cell q hq), fun q hq => (h.rd q hq).aft hb⟩
theorem Sls.three {W : World} {x y z : Option Addr × Nat} {l1 l2 l3 : List Akt} {t : TypeId} (h1 : RdA W W.heap.size x.1 l1) (h2 : RdA W W.heap.size y.1 l2) (h3 : RdA W W.heap.size z.1 l3) :
    Sls (W.alloc (.cells #[.slice x.1 l1.length x.2, .slice y.1 l2.length y.2, .slice z.1 l3.length z.2] t)) (W.alloc (.cells #[.slice x.1 l1.length x.2, .slice y.1 l2.length y.2, .slice z.1 l3.length z.2] t)).heap.size W.heap.size [(x.1, x.2, l1), (y.1, y.2, l2), (z.1, z.2, l3)] := by
  have hba := (Below.refl W.heap.size W).alloc (Nat.le_refl _) (.cells #[.slice x.1 l1.length x.2, .slice y.1 l2.length y.2, .slice z.1 l3.length z.2] t)
  have hB := Blk.new W t #[.slice x.1 l1.length x.2, .slice y.1 l2.length y.2, .slice z.1 l3.length z.2]
  refine ⟨hB.lt, fun q hq => ?_, fun q hq => ?_⟩
  · have : q = 0 ∨ q = 1 ∨ q = 2 := by simp at hq; omega
    rcases this with rfl | rfl | rfl
    · exact hB.cell 0
    · exact hB.cell 1
    · exact hB.cell 2
  · have : q = 0 ∨ q = 1 ∨ q = 2 := by simp at hq; omega
    rcases this with rfl | rfl | rfl
    · exact h1.aft hba
    · exact h2.aft hba
    · exact h3.aft hba
/-- Two slices in a block. -/
theorem Sls.two {W : World} {x y : Option Addr × Nat} {l1 l2 : List Akt} {t : TypeId} (h1 : RdA W W.heap.size x.1 l1) (h2 : RdA W W.heap.size y.1 l2) :
    Sls (W.alloc (.cells #[.slice x.1 l1.length x.2, .slice y.1 l2.length y.2] t)) (W.alloc (.cells #[.slice x.1 l1.length x.2, .slice y.1 l2.length y.2] t)).heap.size W.heap.size [(x.1, x.2, l1), (y.1, y.2, l2)] := by
  have hba := (Below.refl W.heap.size W).alloc (Nat.le_refl _) (.cells #[.slice x.1 l1.length x.2, .slice y.1 l2.length y.2] t)
  have hB := Blk.new W t #[.slice x.1 l1.length x.2, .slice y.1 l2.length y.2]
  refine ⟨hB.lt, fun q hq => ?_, fun q hq => ?_⟩
  · have : q = 0 ∨ q = 1 := by simp at hq; omega
    rcases this with rfl | rfl
    · exact hB.cell 0
    · exact hB.cell 1
  · have : q = 0 ∨ q = 1 := by simp at hq; omega
    rcases this with rfl | rfl
    · exact h1.aft hba
    · exact h2.aft hba
structure TqJ (w0 : World) (g c1 c2 : Nat) (A1 A2 : Option Addr) (m n : List Ins) (r : Ins) (t0t t1t t2t t3t t4t t5t t6t t7t t8t t9t t10t : Bool) (W : World) (y9 y24 y25 y26 y27 y28 y29 y30 y31 y32 y33 : Value) : Prop where
  f0 : t0t = true → y24 = .slice A1 m.length c1
  f1 : t1t = true → y25 = .agg #[.int .i64 r.op, .int .i64 r.a, .int .i64 r.b, .int .i64 r.c]
  f2 : t2t = true → ∃ s : Option Addr × Nat, y26 = .slice s.1 2 s.2 ∧ RdA W W.heap.size s.1 (insL m r oneS 0)
  f3 : t3t = true → y27 = .slice A2 n.length c2
  f4 : t4t = true → y28 = .agg #[.int .i64 r.op, .int .i64 r.a, .int .i64 r.b, .int .i64 r.c]
  f5 : t5t = true → ∃ s : Option Addr × Nat, y29 = .slice s.1 2 s.2 ∧ RdA W W.heap.size s.1 (insL n r twoS 1)
  f6 : t6t = true → y30 = .agg #[.int .i64 5, .int .i64 0, .int .i64 0, .int .i64 0, .string ⟨#[111, 110, 101]⟩, .string ⟨#[]⟩]
  f7 : t7t = true → ∃ s : Option Addr × Nat, y31 = .slice s.1 1 s.2 ∧ RdA W W.heap.size s.1 openA
  f8 : t8t = true → ∃ s : Nat × (Option Addr × Nat) × (Option Addr × Nat) × (Option Addr × Nat), y32 = .slice (some ⟨s.1, 0, none⟩) 3 3 ∧ Sls3 W s.1 s.2.1 s.2.2.1 s.2.2.2 (insL m r oneS 0) (insL n r twoS 1) openA
  f9 : t9t = true → ∃ s : Option Addr × Nat, y33 = .slice s.1 5 s.2 ∧ RdA W W.heap.size s.1 (headL m n r)
  f10 : t10t = true → ∃ s : Option Addr × Nat, y9 = .slice s.1 5 s.2 ∧ RdA W W.heap.size s.1 (headL m n r)
  w : Below w0.heap.size w0 W
noncomputable def tqRegC : Code := ((Tryd.f11.body.bind (Dz9 1)).getD .skip)
set_option maxRecDepth 1000000 in
set_option maxHeartbeats 8000000 in
theorem tqReg (w0 : World) (g c1 c2 : Nat) (A1 A2 : Option Addr) (m n : List Ins) (r : Ins) {v0 v3 v4 v5 v6 v8 v9 v10 v11 v12 v13 v14 v15 v16 v17 v18 v19 v20 v21 v22 v23 v24 v25 v26 v27 v28 v29 v30 v31 v32 v33 v34 v35 v36 v37 v38 v39 v40 v41 v42 v43 v44 v45 v46 v47 v48 v49 v50 v51 v52 v53 v54 v55 v56 v57 v58 v59 v60 v61 v62 v63 v64 v65 v66 v67 v68 v69 v70 v71 v72 v73 v74 v75 v76 v77 v78 v79 v80 v81 v82 v83 v84 v85 v86 v87 v88 v89 v90 v91 v92 v93 v94 v95 v96 v97 v98 v99 v100 v101 v102 v103 v104 v105 v106 v107 v108 v109 v110 v111 v112 v113 v114 v115 v116 v117 v118 v119 v120 v121 v122 v123 v124 v125 v126 v127 v128 v129 v130 v131 v132 v133 v134 v135 v136 v137 v138 v139 v140 v141 v142 v143 v144 v145 v146 v147 v148 v149 v150 v151 v152 v153 v154 v155 v156 v157 v158 v159 v160 v161 v162 v163 v164 v165 v166 v167 v168 v169 v170 v171 v172 v173 v174 v175 v176 v177 v178 v179 v180 v181 v182 v183 : Value} (wr : World) (Q : Exit → Act → World → Prop) (hbs : Below w0.heap.size w0 wr.drew) (hlg : g < w0.heap.size) (hg0 : w0.cell? ⟨g, 0, none⟩ = some (.int .i64 r.op)) (hg1 : w0.cell? ⟨g, 1, none⟩ = some (.int .i64 r.a)) (hg2 : w0.cell? ⟨g, 2, none⟩ = some (.int .i64 r.b)) (hg3 : w0.cell? ⟨g, 3, none⟩ = some (.int .i64 r.c))
    (hI1 : ∀ W : World, Below w0.heap.size w0 W → Calls Tryd.prog 30 #[.slice A1 m.length c1, .agg #[.int .i64 r.op, .int .i64 r.a, .int .i64 r.b, .int .i64 r.c], .string ⟨#[111, 110, 101]⟩, .int .i64 0] W fun e w' => ∃ A' c', e = .returned (.slice A' 2 c') ∧ RowA W w' A' c' (insL m r oneS 0))
    (hI2 : ∀ W : World, Below w0.heap.size w0 W → Calls Tryd.prog 30 #[.slice A2 n.length c2, .agg #[.int .i64 r.op, .int .i64 r.a, .int .i64 r.b, .int .i64 r.c], .string ⟨#[116, 119, 111]⟩, .int .i64 1] W fun e w' => ∃ A' c', e = .returned (.slice A' 2 c') ∧ RowA W w' A' c' (insL n r twoS 1))
    (hQ : ∀ (listed : Array Bool) (W : World) (y9 y24 y25 y26 y27 y28 y29 y30 y31 y32 y33 : Value), (∀ i, i < 11 → listed.getD i true = true) → TqJ w0 g c1 c2 A1 A2 m n r (listed.getD 0 true) (listed.getD 1 true) (listed.getD 2 true) (listed.getD 3 true) (listed.getD 4 true) (listed.getD 5 true) (listed.getD 6 true) (listed.getD 7 true) (listed.getD 8 true) (listed.getD 9 true) (listed.getD 10 true) W y9 y24 y25 y26 y27 y28 y29 y30 y31 y32 y33 → Q .normal ⟨#[v0, .slice A1 m.length c1, .slice A2 n.length c2, v3, v4, v5, v6, .pointer (some ⟨g, 0, none⟩), v8, y9, v10, v11, v12, v13, v14, v15, v16, v17, v18, v19, v20, v21, v22, v23, y24, y25, y26, y27, y28, y29, y30, y31, y32, y33, v34, v35, v36, v37, v38, v39, v40, v41, v42, v43, v44, v45, v46, v47, v48, v49, v50, v51, v52, v53, v54, v55, v56, v57, v58, v59, v60, v61, v62, v63, v64, v65, v66, v67, v68, v69, v70, v71, v72, v73, v74, v75, v76, v77, v78, v79, v80, v81, v82, v83, v84, v85, v86, v87, v88, v89, v90, v91, v92, v93, v94, v95, v96, v97, v98, v99, v100, v101, v102, v103, v104, v105, v106, v107, v108, v109, v110, v111, v112, v113, v114, v115, v116, v117, v118, v119, v120, v121, v122, v123, v124, v125, v126, v127, v128, v129, v130, v131, v132, v133, v134, v135, v136, v137, v138, v139, v140, v141, v142, v143, v144, v145, v146, v147, v148, v149, v150, v151, v152, v153, v154, v155, v156, v157, v158, v159, v160, v161, v162, v163, v164, v165, v166, v167, v168, v169, v170, v171, v172, v173, v174, v175, v176, v177, v178, v179, v180, v181, v182, v183], []⟩ W) :
    Code.wp Tryd.prog tqRegC Q ⟨#[v0, .slice A1 m.length c1, .slice A2 n.length c2, v3, v4, v5, v6, .pointer (some ⟨g, 0, none⟩), v8, v9, v10, v11, v12, v13, v14, v15, v16, v17, v18, v19, v20, v21, v22, v23, v24, v25, v26, v27, v28, v29, v30, v31, v32, v33, v34, v35, v36, v37, v38, v39, v40, v41, v42, v43, v44, v45, v46, v47, v48, v49, v50, v51, v52, v53, v54, v55, v56, v57, v58, v59, v60, v61, v62, v63, v64, v65, v66, v67, v68, v69, v70, v71, v72, v73, v74, v75, v76, v77, v78, v79, v80, v81, v82, v83, v84, v85, v86, v87, v88, v89, v90, v91, v92, v93, v94, v95, v96, v97, v98, v99, v100, v101, v102, v103, v104, v105, v106, v107, v108, v109, v110, v111, v112, v113, v114, v115, v116, v117, v118, v119, v120, v121, v122, v123, v124, v125, v126, v127, v128, v129, v130, v131, v132, v133, v134, v135, v136, v137, v138, v139, v140, v141, v142, v143, v144, v145, v146, v147, v148, v149, v150, v151, v152, v153, v154, v155, v156, v157, v158, v159, v160, v161, v162, v163, v164, v165, v166, v167, v168, v169, v170, v171, v172, v173, v174, v175, v176, v177, v178, v179, v180, v181, v182, v183], []⟩ wr := by
  have HQ := Lib.hid hQ
  clear hQ
  conv => arg 2; whnf
  refine Azj (fun listed a W => ∃ y9 y24 y25 y26 y27 y28 y29 y30 y31 y32 y33, TqJ w0 g c1 c2 A1 A2 m n r (listed.getD 0 true) (listed.getD 1 true) (listed.getD 2 true) (listed.getD 3 true) (listed.getD 4 true) (listed.getD 5 true) (listed.getD 6 true) (listed.getD 7 true) (listed.getD 8 true) (listed.getD 9 true) (listed.getD 10 true) W y9 y24 y25 y26 y27 y28 y29 y30 y31 y32 y33 ∧ a = ⟨#[v0, .slice A1 m.length c1, .slice A2 n.length c2, v3, v4, v5, v6, .pointer (some ⟨g, 0, none⟩), v8, y9, v10, v11, v12, v13, v14, v15, v16, v17, v18, v19, v20, v21, v22, v23, y24, y25, y26, y27, y28, y29, y30, y31, y32, y33, v34, v35, v36, v37, v38, v39, v40, v41, v42, v43, v44, v45, v46, v47, v48, v49, v50, v51, v52, v53, v54, v55, v56, v57, v58, v59, v60, v61, v62, v63, v64, v65, v66, v67, v68, v69, v70, v71, v72, v73, v74, v75, v76, v77, v78, v79, v80, v81, v82, v83, v84, v85, v86, v87, v88, v89, v90, v91, v92, v93, v94, v95, v96, v97, v98, v99, v100, v101, v102, v103, v104, v105, v106, v107, v108, v109, v110, v111, v112, v113, v114, v115, v116, v117, v118, v119, v120, v121, v122, v123, v124, v125, v126, v127, v128, v129, v130, v131, v132, v133, v134, v135, v136, v137, v138, v139, v140, v141, v142, v143, v144, v145, v146, v147, v148, v149, v150, v151, v152, v153, v154, v155, v156, v157, v158, v159, v160, v161, v162, v163, v164, v165, v166, v167, v168, v169, v170, v171, v172, v173, v174, v175, v176, v177, v178, v179, v180, v181, v182, v183], []⟩) (by kernel_rfl) (Ez9 (by kernel_rfl)) ?start ?step ?fin
  case start =>
    refine ⟨_, _, _, _, _, _, _, _, _, _, _, ?_, rfl⟩
    constructor
    all_goals first | exact hbs | exact fun _ => rfl | exact fun h => absurd h (by decide)
  case step =>
    intro i o ho listed a W hl haf hI K hK
    obtain ⟨y9, y24, y25, y26, y27, y28, y29, y30, y31, y32, y33, hJ, rfl⟩ := hI
    have hK := fun (W' : World) z9 z24 z25 z26 z27 z28 z29 z30 z31 z32 z33 h => hK _ W' ⟨z9, z24, z25, z26, z27, z28, z29, z30, z31, z32, z33, h, rfl⟩
    simp only [Az2] at hK
    have hi : i < 11 := (Array.getElem?_eq_some_iff.1 ho).1
    have h16 : i = 0 ∨ i = 1 ∨ i = 2 ∨ i = 3 ∨ i = 4 ∨ i = 5 ∨ i = 6 ∨ i = 7 ∨ i = 8 ∨ i = 9 ∨ i = 10 := by omega
    rcases h16 with rfl | rfl | rfl | rfl | rfl | rfl | rfl | rfl | rfl | rfl | rfl
    all_goals
      have ho := Option.some.inj ho
      subst ho
      try simp [Region.binds] at haf
    ·
      go_simp
      apply hK; exact { hJ with f0 := fun _ => rfl }
    ·
      have e0 := (hJ.w.cell (p := ⟨g, 0, none⟩) hlg).trans hg0
      have e1 := (hJ.w.cell (p := ⟨g, 1, none⟩) hlg).trans hg1
      have e2 := (hJ.w.cell (p := ⟨g, 2, none⟩) hlg).trans hg2
      have e3 := (hJ.w.cell (p := ⟨g, 3, none⟩) hlg).trans hg3
      go_simp
      apply hK; exact { hJ with f1 := fun _ => rfl }
    ·
      obtain rfl := hJ.f0 (Az3 (by simp [haf]))
      obtain rfl := hJ.f1 (Az3 (by simp [haf]))
      have hc := hI1 W hJ.w
      go_simp
      go_at_call 30
      refine hc.mono ?_
      rintro e' w2 ⟨A', c', rfl, hR⟩
      have hb2 := hR.be
      apply hK; exact { hJ with f2 := fun _ => ⟨(A', c'), rfl, RdA.of (Rd.of_own hR.own)⟩, f5 := fun x => by obtain ⟨s, e1, e2⟩ := hJ.f5 x; exact ⟨s, e1, e2.aft hb2⟩, f7 := fun x => by obtain ⟨s, e1, e2⟩ := hJ.f7 x; exact ⟨s, e1, e2.aft hb2⟩, f8 := fun x => by obtain ⟨s, e1, e2⟩ := hJ.f8 x; exact ⟨s, e1, Sls.aft e2 hb2⟩, f9 := fun x => by obtain ⟨s, e1, e2⟩ := hJ.f9 x; exact ⟨s, e1, e2.aft hb2⟩, f10 := fun x => by obtain ⟨s, e1, e2⟩ := hJ.f10 x; exact ⟨s, e1, e2.aft hb2⟩, w := hJ.w.trans (hb2.mono hJ.w.size) }
    ·
      go_simp
      apply hK; exact { hJ with f3 := fun _ => rfl }
    ·
      have e0 := (hJ.w.cell (p := ⟨g, 0, none⟩) hlg).trans hg0
      have e1 := (hJ.w.cell (p := ⟨g, 1, none⟩) hlg).trans hg1
      have e2 := (hJ.w.cell (p := ⟨g, 2, none⟩) hlg).trans hg2
      have e3 := (hJ.w.cell (p := ⟨g, 3, none⟩) hlg).trans hg3
      go_simp
      apply hK; exact { hJ with f4 := fun _ => rfl }
    ·
      obtain rfl := hJ.f3 (Az3 (by simp [haf]))
      obtain rfl := hJ.f4 (Az3 (by simp [haf]))
      obtain ⟨s2, rfl, hE2⟩ := hJ.f2 (Az3 (by simp [haf]))
      have hc := hI2 W hJ.w
      go_simp
      go_at_call 30
      refine hc.mono ?_
      rintro e' w2 ⟨A', c', rfl, hR⟩
      have hb2 := hR.be
      apply hK; exact { hJ with f2 := fun x => by obtain ⟨s, e1, e2⟩ := hJ.f2 x; exact ⟨s, e1, e2.aft hb2⟩, f5 := fun _ => ⟨(A', c'), rfl, RdA.of (Rd.of_own hR.own)⟩, f7 := fun x => by obtain ⟨s, e1, e2⟩ := hJ.f7 x; exact ⟨s, e1, e2.aft hb2⟩, f8 := fun x => by obtain ⟨s, e1, e2⟩ := hJ.f8 x; exact ⟨s, e1, Sls.aft e2 hb2⟩, f9 := fun x => by obtain ⟨s, e1, e2⟩ := hJ.f9 x; exact ⟨s, e1, e2.aft hb2⟩, f10 := fun x => by obtain ⟨s, e1, e2⟩ := hJ.f10 x; exact ⟨s, e1, e2.aft hb2⟩, w := hJ.w.trans (hb2.mono hJ.w.size) }
    ·
      go_simp
      apply hK; exact { hJ with f6 := fun _ => rfl }
    ·
      obtain rfl := hJ.f6 (Az3 (by simp [haf]))
      go_simp
      apply hK; exact { hJ with f2 := fun x => by obtain ⟨s, e1, e2⟩ := hJ.f2 x; exact ⟨s, e1, e2.aft ((Below.refl _ _).alloc (Nat.le_refl _) _)⟩, f5 := fun x => by obtain ⟨s, e1, e2⟩ := hJ.f5 x; exact ⟨s, e1, e2.aft ((Below.refl _ _).alloc (Nat.le_refl _) _)⟩, f7 := fun _ => ⟨(some ⟨W.heap.size, 0, none⟩, 1), rfl, RdA.blk (Blk.new W _ _) rfl⟩, f8 := fun x => by obtain ⟨s, e1, e2⟩ := hJ.f8 x; exact ⟨s, e1, Sls.aft e2 ((Below.refl _ _).alloc (Nat.le_refl _) _)⟩, f9 := fun x => by obtain ⟨s, e1, e2⟩ := hJ.f9 x; exact ⟨s, e1, e2.aft ((Below.refl _ _).alloc (Nat.le_refl _) _)⟩, f10 := fun x => by obtain ⟨s, e1, e2⟩ := hJ.f10 x; exact ⟨s, e1, e2.aft ((Below.refl _ _).alloc (Nat.le_refl _) _)⟩, w := hJ.w.alloc hJ.w.size _ }
    ·
      obtain ⟨s2, rfl, hE2⟩ := hJ.f2 (Az3 (by simp [haf]))
      obtain ⟨s5, rfl, hE5⟩ := hJ.f5 (Az3 (by simp [haf]))
      obtain ⟨s7, rfl, hE7⟩ := hJ.f7 (Az3 (by simp [haf]))
      go_simp
      apply hK; exact { hJ with f2 := fun x => by obtain ⟨s, e1, e2⟩ := hJ.f2 x; exact ⟨s, e1, e2.aft ((Below.refl _ _).alloc (Nat.le_refl _) _)⟩, f5 := fun x => by obtain ⟨s, e1, e2⟩ := hJ.f5 x; exact ⟨s, e1, e2.aft ((Below.refl _ _).alloc (Nat.le_refl _) _)⟩, f7 := fun x => by obtain ⟨s, e1, e2⟩ := hJ.f7 x; exact ⟨s, e1, e2.aft ((Below.refl _ _).alloc (Nat.le_refl _) _)⟩, f8 := fun _ => ⟨(W.heap.size, s2, s5, s7), rfl, Sls.three hE2 hE5 hE7⟩, f9 := fun x => by obtain ⟨s, e1, e2⟩ := hJ.f9 x; exact ⟨s, e1, e2.aft ((Below.refl _ _).alloc (Nat.le_refl _) _)⟩, f10 := fun x => by obtain ⟨s, e1, e2⟩ := hJ.f10 x; exact ⟨s, e1, e2.aft ((Below.refl _ _).alloc (Nat.le_refl _) _)⟩, w := hJ.w.alloc hJ.w.size _ }
    ·
      obtain ⟨s8, rfl, hE8⟩ := hJ.f8 (Az3 (by simp [haf]))
      have hc := Rzn s8.1 3 [(s8.2.1.1, s8.2.1.2, (insL m r oneS 0)), (s8.2.2.1.1, s8.2.2.1.2, (insL n r twoS 1)), (s8.2.2.2.1, s8.2.2.2.2, openA)] W hE8 (show 3 ≤ 100 by decide) (show 2 + (2 + (1 + 0)) ≤ 100000 by omega)
      go_simp
      go_at_call 32
      refine hc.mono ?_
      rintro e' w2 ⟨A', c', rfl, hR, hb2⟩
      apply hK; exact { hJ with f2 := fun x => by obtain ⟨s, e1, e2⟩ := hJ.f2 x; exact ⟨s, e1, e2.aft hb2⟩, f5 := fun x => by obtain ⟨s, e1, e2⟩ := hJ.f5 x; exact ⟨s, e1, e2.aft hb2⟩, f7 := fun x => by obtain ⟨s, e1, e2⟩ := hJ.f7 x; exact ⟨s, e1, e2.aft hb2⟩, f8 := fun x => by obtain ⟨s, e1, e2⟩ := hJ.f8 x; exact ⟨s, e1, Sls.aft e2 hb2⟩, f9 := fun _ => ⟨(A', c'), rfl, RdA.of (l := headL m n r) (Rd.of_own hR)⟩, f10 := fun x => by obtain ⟨s, e1, e2⟩ := hJ.f10 x; exact ⟨s, e1, e2.aft hb2⟩, w := hJ.w.trans (hb2.mono hJ.w.size) }
    ·
      obtain ⟨s9, rfl, hE9⟩ := hJ.f9 (Az3 (by simp [haf]))
      go_simp
      apply hK; exact { hJ with f10 := fun _ => ⟨s9, rfl, hE9⟩ }
  case fin =>
    intro listed a W hall hI
    obtain ⟨y9, y24, y25, y26, y27, y28, y29, y30, y31, y32, y33, hJ, rfl⟩ := hI
    exact HQ.out listed W _ _ _ _ _ _ _ _ _ _ _ hall hJ
end Go.Proofs.YtdjamdbamkhblacDoor
