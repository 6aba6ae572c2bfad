/- The drawn region of keep.Acts. No condition. By an AI agent (xacts.py). The walk of keep.Acts: raw things become acts. No condition. slices.Equal at integers, of two slices that hold the same: true. -/
import Derived.Test.YtdjamdbamkhblacDoorG30
import Derived.Test.YtdjamdbamkhblacDoorG03
import Derived.Test.YtdjamdbamkhblacDoorG07
import Derived.Test.YtdjamdbamkhblacDoorG15
import Derived.Test.YtdjamdbamkhblacDoorG01
namespace Go.Proofs.YtdjamdbamkhblacDoor
open Go.RowKit
set_option linter.unusedVariables false
set_option linter.unusedSimpArgs false
structure AcJ (w0 : World) (bR pa pb pc : Nat) (ra rb rc : Int) (nm : ByteArray) (t0t t1t t2t t3t t4t t5t t6t t7t t8t t9t t10t t11t t12t t13t t14t : Bool) (W : World) (y8 y25 y26 y27 y28 y29 y30 y31 y32 y33 y34 y35 y36 y37 : Value) : Prop where
 f0 : t0t = true → y25 = .pointer (some ⟨bR, 1, none⟩)
 f1 : t1t = true → y26 = .int .i64 ra
 f2 : t2t = true → y27 = .int .i64 (pa : Int)
 f3 : t3t = true → y28 = .pointer (some ⟨bR, 2, none⟩)
 f4 : t4t = true → y29 = .int .i64 rb
 f5 : t5t = true → y30 = .int .i64 (pb : Int)
 f6 : t6t = true → ∃ s : Nat, y31 = .slice (some ⟨s, 0, none⟩) 3 3 ∧ (t14t = false → s < W.heap.size ∧ W.cell? ⟨s, pc, none⟩ = some (.string nm))
 f7 : t7t = true → y32 = .pointer (some ⟨bR, 3, none⟩)
 f8 : t8t = true → y33 = .int .i64 rc
 f9 : t9t = true → y34 = .int .i64 (pc : Int)
 f10 : t10t = true → ∃ s : Nat, y35 = .pointer (some ⟨s, pc, none⟩) ∧ (t14t = false → s < W.heap.size ∧ W.cell? ⟨s, pc, none⟩ = some (.string nm))
 f11 : t11t = true → y36 = .string nm
 f12 : t12t = true → y37 = .agg #[.int .i64 0, .int .i64 (pa : Int), .int .i64 (pb : Int), .int .i64 0, .string nm, .string ⟨#[]⟩]
 f13 : t13t = true → ∃ s : Nat, y8 = .pointer (some ⟨s, 0, none⟩) ∧ (t14t = false → w0.heap.size ≤ s ∧ Blk W s 26 #[.int .i64 0, .int .i64 0, .int .i64 0, .int .i64 0, .string ⟨#[]⟩, .string ⟨#[]⟩])
 f14 : t14t = true → ∃ s, y8 = .pointer (some ⟨s, 0, none⟩) ∧ w0.heap.size ≤ s ∧ Blk W s 26 #[.int .i64 0, .int .i64 (pa : Int), .int .i64 (pb : Int), .int .i64 0, .string nm, .string ⟨#[]⟩]
 q14_10 : t14t = true → t10t = true
 q14_11 : t14t = true → t11t = true
 q14_13 : t14t = true → t13t = true
 q14_6 : t14t = true → t6t = true
 w : Below w0.heap.size w0 W
noncomputable def actsRC : Code := ((Tryd.f15.body.bind (regAt 6)).getD .skip)
set_option maxRecDepth 1000000 in
set_option maxHeartbeats 8000000 in
theorem actsR (w0 : World) (bR pa pb pc : Nat) (ra rb rc : Int) (nm : ByteArray) {v0 v1 v2 v3 v4 v5 v6 v8 v9 v10 v11 v12 v13 v14 v15 v16 v17 v18 v19 v20 v21 v22 v23 v24 v25 v26 v27 v28 v29 v30 v31 v32 v33 v34 v35 v36 v37 v38 v39 v40 v41 v42 v43 v44 v45 v46 v47 v48 v49 v50 v51 v52 v53 v54 v55 v56 v57 v58 v59 v60 v61 v62 v63 v64 v65 v66 v67 v68 v69 v70 v71 v72 v73 v74 v75 v76 v77 v78 v79 v80 v81 v82 v83 v84 v85 v86 v87 v88 v89 v90 v91 v92 v93 v94 v95 v96 v97 v98 v99 v100 v101 v102 v103 v104 v105 v106 : Value} (wr : World) (Q : Exit → Act → World → Prop) (hbs : Below w0.heap.size w0 wr.drew) (hlR : bR < w0.heap.size) (hR1 : w0.cell? ⟨bR, 1, none⟩ = some (.int .i64 ra)) (hR2 : w0.cell? ⟨bR, 2, none⟩ = some (.int .i64 rb)) (hR3 : w0.cell? ⟨bR, 3, none⟩ = some (.int .i64 rc)) (hpc3 : pc < 3) (PA : Hid (∀ W : World, Calls Tryd.prog 13 #[.int .i64 ra, .int .i64 3] W fun e w' => e = .returned (.int .i64 (pa : Nat)) ∧ W = w')) (PB : Hid (∀ W : World, Calls Tryd.prog 13 #[.int .i64 rb, .int .i64 6] W fun e w' => e = .returned (.int .i64 (pb : Nat)) ∧ W = w')) (PC : Hid (∀ W : World, Calls Tryd.prog 13 #[.int .i64 rc, .int .i64 3] W fun e w' => e = .returned (.int .i64 (pc : Nat)) ∧ W = w')) (hnm : ∀ W : World, (W.alloc (.cells #[.string ⟨#[102]⟩, .string ⟨#[103]⟩, .string ⟨#[100, 101, 118]⟩] 9)).cell? ⟨W.heap.size, pc, none⟩ = some (.string nm))
  (hQ : ∀ (listed : Array Bool) (W : World) (y8 y25 y26 y27 y28 y29 y30 y31 y32 y33 y34 y35 y36 y37 : Value), (∀ i, i < 15 → listed.getD i true = true) → AcJ w0 bR pa pb pc ra rb rc nm (listed.getD 0 true) (listed.getD 1 true) (listed.getD 2 true) (listed.getD 3 true) (listed.getD 4 true) (listed.getD 5 true) (listed.getD 6 true) (listed.getD 7 true) (listed.getD 8 true) (listed.getD 9 true) (listed.getD 10 true) (listed.getD 11 true) (listed.getD 12 true) (listed.getD 13 true) (listed.getD 14 true) W y8 y25 y26 y27 y28 y29 y30 y31 y32 y33 y34 y35 y36 y37 → Q .normal ⟨#[v0, v1, v2, v3, v4, v5, v6, .pointer (some ⟨bR, 0, none⟩), y8, v9, v10, v11, v12, v13, v14, v15, v16, v17, v18, v19, v20, v21, v22, v23, v24, y25, y26, y27, y28, y29, y30, y31, y32, y33, y34, y35, y36, y37, v38, v39, v40, v41, v42, v43, v44, v45, v46, v47, v48, v49, v50, v51, v52, v53, v54, v55, v56, v57, v58, v59, v60, v61, v62, v63, v64, v65, v66, v67, v68, v69, v70, v71, v72, v73, v74, v75, v76, v77, v78, v79, v80, v81, v82, v83, v84, v85, v86, v87, v88, v89, v90, v91, v92, v93, v94, v95, v96, v97, v98, v99, v100, v101, v102, v103, v104, v105, v106], []⟩ W) :
  Code.wp Tryd.prog actsRC Q ⟨#[v0, v1, v2, v3, v4, v5, v6, .pointer (some ⟨bR, 0, none⟩), v8, v9, v10, v11, v12, v13, v14, v15, v16, v17, v18, v19, v20, v21, v22, v23, v24, v25, v26, v27, v28, v29, v30, v31, v32, v33, v34, v35, v36, v37, v38, v39, v40, v41, v42, v43, v44, v45, v46, v47, v48, v49, v50, v51, v52, v53, v54, v55, v56, v57, v58, v59, v60, v61, v62, v63, v64, v65, v66, v67, v68, v69, v70, v71, v72, v73, v74, v75, v76, v77, v78, v79, v80, v81, v82, v83, v84, v85, v86, v87, v88, v89, v90, v91, v92, v93, v94, v95, v96, v97, v98, v99, v100, v101, v102, v103, v104, v105, v106], []⟩ wr := by
 have HQ := Lib.hid hQ
 clear hQ
 conv => arg 2; whnf
 refine wp_region_invB (fun listed a W => ∃ y8 y25 y26 y27 y28 y29 y30 y31 y32 y33 y34 y35 y36 y37, AcJ w0 bR pa pb pc ra rb rc nm (listed.getD 0 true) (listed.getD 1 true) (listed.getD 2 true) (listed.getD 3 true) (listed.getD 4 true) (listed.getD 5 true) (listed.getD 6 true) (listed.getD 7 true) (listed.getD 8 true) (listed.getD 9 true) (listed.getD 10 true) (listed.getD 11 true) (listed.getD 12 true) (listed.getD 13 true) (listed.getD 14 true) W y8 y25 y26 y27 y28 y29 y30 y31 y32 y33 y34 y35 y36 y37 ∧ a = ⟨#[v0, v1, v2, v3, v4, v5, v6, .pointer (some ⟨bR, 0, none⟩), y8, v9, v10, v11, v12, v13, v14, v15, v16, v17, v18, v19, v20, v21, v22, v23, v24, y25, y26, y27, y28, y29, y30, y31, y32, y33, y34, y35, y36, y37, v38, v39, v40, v41, v42, v43, v44, v45, v46, v47, v48, v49, v50, v51, v52, v53, v54, v55, v56, v57, v58, v59, v60, v61, v62, v63, v64, v65, v66, v67, v68, v69, v70, v71, v72, v73, v74, v75, v76, v77, v78, v79, v80, v81, v82, v83, v84, v85, v86, v87, v88, v89, v90, v91, v92, v93, v94, v95, v96, v97, v98, v99, v100, v101, v102, v103, v104, v105, v106], []⟩) (by kernel_rfl) (ord_ofB (by kernel_rfl)) ?start ?step ?fin
 case start =>
  refine ⟨_, _, _, _, _, _, _, _, _, _, _, _, _, _, ?_, rfl⟩
  constructor
  all_goals first | exact hbs | exact fun _ => rfl | exact fun h => absurd h (by decide)
 case step =>
  intro i o ho listed a W hl haf hI K hK
  obtain ⟨y8, y25, y26, y27, y28, y29, y30, y31, y32, y33, y34, y35, y36, y37, hJ, rfl⟩ := hI
  have hK := fun (W' : World) z8 z25 z26 z27 z28 z29 z30 z31 z32 z33 z34 z35 z36 z37 h => hK _ W' ⟨z8, z25, z26, z27, z28, z29, z30, z31, z32, z33, z34, z35, z36, z37, h, rfl⟩
  simp only [listed_set] at hK
  have hi : i < 15 := (Array.getElem?_eq_some_iff.1 ho).1
  have h16 : i = 0 ∨ i = 1 ∨ i = 2 ∨ i = 3 ∨ i = 4 ∨ i = 5 ∨ i = 6 ∨ i = 7 ∨ i = 8 ∨ i = 9 ∨ i = 10 ∨ i = 11 ∨ i = 12 ∨ i = 13 ∨ i = 14 := by omega
  rcases h16 with rfl | rfl | rfl | rfl | rfl | rfl | rfl | rfl | rfl | rfl | rfl | rfl | rfl | rfl | rfl
  all_goals
   have ho := Option.some.inj ho
   subst ho
   try simp [Region.binds] at haf
  ·
    go_simp
    apply hK; exact { hJ with f0 := fun _ => rfl }
  ·
    obtain rfl := hJ.f0 (waitsR (by simp [haf]))
    have e1 := (hJ.w.cell (p := ⟨bR, 1, none⟩) hlR).trans hR1
    go_simp
    apply hK; exact { hJ with f1 := fun _ => rfl }
  ·
    obtain rfl := hJ.f1 (waitsR (by simp [haf]))
    go_simp
    go_at_call 13
    refine (PA.out _).mono ?_
    rintro e' w2 ⟨rfl, rfl⟩
    apply hK; exact { hJ with f2 := fun _ => rfl }
  ·
    go_simp
    apply hK; exact { hJ with f3 := fun _ => rfl }
  ·
    obtain rfl := hJ.f3 (waitsR (by simp [haf]))
    have e1 := (hJ.w.cell (p := ⟨bR, 2, none⟩) hlR).trans hR2
    go_simp
    apply hK; exact { hJ with f4 := fun _ => rfl }
  ·
    obtain rfl := hJ.f4 (waitsR (by simp [haf]))
    obtain rfl := hJ.f2 (waitsR (by simp [haf]))
    go_simp
    go_at_call 13
    refine (PB.out _).mono ?_
    rintro e' w2 ⟨rfl, rfl⟩
    apply hK; exact { hJ with f5 := fun _ => rfl }
  ·
    go_simp
    apply hK; exact { hJ with f6 := fun _ => ⟨_, rfl, fun _ => ⟨by simp, hnm W⟩⟩, f10 := fun x => by obtain ⟨s, e1, e2⟩ := hJ.f10 x; exact ⟨s, e1, fun h => ⟨Nat.lt_trans (e2 h).1 (by simp), (World.cell?_alloc_lt _ _ _ (e2 h).1).trans (e2 h).2⟩⟩, f13 := fun x => by obtain ⟨s, e1, e2⟩ := hJ.f13 x; exact ⟨s, e1, fun h => ⟨(e2 h).1, (e2 h).2.alloc _⟩⟩, f14 := fun x => by have e := hJ.q14_6 x; rw [hl] at e; exact absurd e (by decide), q14_6 := fun _ => rfl, w := hJ.w.alloc hJ.w.size _ }
  ·
    go_simp
    apply hK; exact { hJ with f7 := fun _ => rfl }
  ·
    obtain rfl := hJ.f7 (waitsR (by simp [haf]))
    have e1 := (hJ.w.cell (p := ⟨bR, 3, none⟩) hlR).trans hR3
    go_simp
    apply hK; exact { hJ with f8 := fun _ => rfl }
  ·
    obtain rfl := hJ.f8 (waitsR (by simp [haf]))
    obtain rfl := hJ.f5 (waitsR (by simp [haf]))
    go_simp
    go_at_call 13
    refine (PC.out _).mono ?_
    rintro e' w2 ⟨rfl, rfl⟩
    apply hK; exact { hJ with f9 := fun _ => rfl }
  ·
    obtain ⟨s6, rfl, hE6⟩ := hJ.f6 (waitsR (by simp [haf]))
    obtain rfl := hJ.f9 (waitsR (by simp [haf]))
    have h14 := nlR hJ.q14_10 hl
    have hpc : (pc : Int) < 3 := by omega
    go_simp
    apply hK; exact { hJ with f10 := fun _ => ⟨s6, rfl, fun _ => hE6 h14⟩, q14_10 := fun _ => rfl }
  ·
    obtain ⟨s10, rfl, hE10⟩ := hJ.f10 (waitsR (by simp [haf]))
    have h14 := nlR hJ.q14_11 hl
    have e1 := (hE10 h14).2
    have e2 := (hE10 h14).1
    go_simp
    apply hK; exact { hJ with f11 := fun _ => rfl, q14_11 := fun _ => rfl }
  ·
    obtain rfl := hJ.f2 (waitsR (by simp [haf]))
    obtain rfl := hJ.f5 (waitsR (by simp [haf]))
    obtain rfl := hJ.f11 (waitsR (by simp [haf]))
    go_simp
    apply hK; exact { hJ with f12 := fun _ => rfl }
  ·
    go_simp
    apply hK; exact { hJ with f6 := fun x => by obtain ⟨s, e1, e2⟩ := hJ.f6 x; exact ⟨s, e1, fun h => ⟨Nat.lt_trans (e2 h).1 (by simp), (World.cell?_alloc_lt _ _ _ (e2 h).1).trans (e2 h).2⟩⟩, f10 := fun x => by obtain ⟨s, e1, e2⟩ := hJ.f10 x; exact ⟨s, e1, fun h => ⟨Nat.lt_trans (e2 h).1 (by simp), (World.cell?_alloc_lt _ _ _ (e2 h).1).trans (e2 h).2⟩⟩, f13 := fun _ => ⟨_, rfl, fun _ => ⟨hJ.w.size, Blk.new _ _ _⟩⟩, f14 := fun x => by have e := hJ.q14_13 x; rw [hl] at e; exact absurd e (by decide), q14_13 := fun _ => rfl, w := hJ.w.alloc hJ.w.size _ }
  ·
    have p13 : listed.getD 13 true = true := waitsR (by simp [haf])
    have p11 : listed.getD 11 true = true := waitsR (by simp [haf])
    have p10 : listed.getD 10 true = true := waitsR (by simp [haf])
    have p6 : listed.getD 6 true = true := waitsR (by simp [haf])
    obtain ⟨s13, rfl, hE13⟩ := hJ.f13 p13
    obtain rfl := hJ.f12 (waitsR (by simp [haf]))
    obtain rfl := hJ.f11 p11
    obtain ⟨s10, rfl, hE10⟩ := hJ.f10 p10
    obtain ⟨s6, rfl, hE6⟩ := hJ.f6 p6
    have hb := (hE13 hl).2
    have e0 := hb.cell 0
    have e1 := hb.cell 1
    have e2 := hb.cell 2
    have e3 := hb.cell 3
    have e4 := hb.cell 4
    have e5 := hb.cell 5
    have f0 := hb.frozen 0
    have f1 := hb.frozen 1
    have f2 := hb.frozen 2
    have f3 := hb.frozen 3
    have f4 := hb.frozen 4
    have f5 := hb.frozen 5
    have hlt := hb.lt
    simp at e0 e1 e2 e3 e4 e5
    go_simp
    apply hK; exact { hJ with f6 := fun x => by obtain ⟨s, e1, e2⟩ := hJ.f6 x; exact ⟨s, e1, tfR⟩, f10 := fun x => by obtain ⟨s, e1, e2⟩ := hJ.f10 x; exact ⟨s, e1, tfR⟩, f13 := fun x => by obtain ⟨s, e1, e2⟩ := hJ.f13 x; exact ⟨s, e1, tfR⟩, f14 := fun _ => ⟨_, rfl, (hE13 hl).1, (((((((hE13 hl).2.set_ 0 _).set_ 1 _).set_ 2 _).set_ 3 _).set_ 4 _).set_ 5 _)⟩, q14_10 := fun _ => p10, q14_11 := fun _ => p11, q14_13 := fun _ => p13, q14_6 := fun _ => p6, w := ((((((hJ.w.setCell (hE13 hl).1 _).setCell (hE13 hl).1 _).setCell (hE13 hl).1 _).setCell (hE13 hl).1 _).setCell (hE13 hl).1 _).setCell (hE13 hl).1 _) }
 case fin =>
  intro listed a W hall hI
  obtain ⟨y8, y25, y26, y27, y28, y29, y30, y31, y32, y33, y34, y35, y36, y37, hJ, rfl⟩ := hI
  exact HQ.out listed W _ _ _ _ _ _ _ _ _ _ _ _ _ _ hall hJ
end Go.Proofs.YtdjamdbamkhblacDoor
namespace Go.Proofs.YtdjamdbamkhblacDoor
open Go.RowKit
set_option linter.unusedVariables false
set_option linter.unusedSimpArgs false
theorem nameA_cell (c : Int) (W : World) : (W.alloc (.cells #[.string ⟨#[102]⟩, .string ⟨#[103]⟩, .string ⟨#[100, 101, 118]⟩] 9)).cell? ⟨W.heap.size, pick c 3, none⟩ = some (.string (nameA c)) := by
 have hB := Blk.new W 9 #[.string ⟨#[102]⟩, .string ⟨#[103]⟩, .string ⟨#[100, 101, 118]⟩]
 have h3 := pick_lt c (m := 3) (by omega)
 unfold nameA
 by_cases h0 : pick c 3 = 0
 ·rw [if_pos h0, h0]; exact hB.cell 0
 by_cases h1 : pick c 3 = 1
 ·rw [if_neg h0, if_pos h1, h1]; exact hB.cell 1
 ·have h2 : pick c 3 = 2 := by omega
  rw [if_neg h0, if_neg h1, h2]; exact hB.cell 2
theorem RowA.nil {w W : World} (h : Below w.heap.size w W) : RowA w W none 0 [] := ⟨World.ownsRow_nil _ _ _ _, h⟩
theorem actsP_succ (l : List Ins) (k : Nat) (h : k < l.length) : (l.take (k + 1)).map actI = (l.take k).map actI ++ [actI l[k]] := by
 rw [List.take_succ_eq_append_getElem h, List.map_append]
 rfl
set_option maxRecDepth 100000 in
set_option maxHeartbeats 4000000 in
theorem Acts_any (A : Option Addr) (c m : Nat) (l : List Ins) (w : World) (hr : RdI w w.heap.size A l) (hwf : ∀ i ∈ l, i.wf) (hl : l.length ≤ maxLen) (hm : m ≤ 1000) :
  Calls Tryd.prog 15 #[.slice A l.length c, .int .i64 (m : Int)] w fun e w' => ∃ A' c', e = .returned (.slice A' (actsL l m).length c') ∧ RowA w w' A' c' (actsL l m) := by
 have HRD := Lib.hid hr
 have HWF := Lib.hid hwf
 have hl' : (l.length : Int) ≤ 9223372036854775807 := by unfold maxLen at hl; omega
 clear hr hwf hl
 go_enter Tryd.func15, Tryd.ntmps15
 go_wp2_with fail
 go_loopw [5, 6] (fun V i wr => Cnt (min l.length m) i fun k => ∃ A c, V = .slice A k c ∧ RowA w wr A c ((l.take k).map actI)) (fun _ i _ => min l.length m - (intOf i).toNat)
 case atStart => exact ⟨0, Nat.zero_le _, rfl, none, 0, rfl, RowA.nil (Below.refl _ _)⟩
 case round =>
  obtain ⟨k, hk, rfl, A1, c1, rfl, h1⟩ := hrel
  by_cases hlt : k < min l.length m
  ·have hkl : k < l.length := by omega
   have t1 : (k : Int) < (l.length : Int) := by omega
   have t2 : (k : Int) < (m : Int) := by omega
   obtain ⟨b, o, rfl, hb, hcell⟩ := HRD.out (by omega)
   obtain ⟨c0, c1', c2, c3⟩ := hcell k hkl
   obtain ⟨r, hr⟩ : ∃ r, r = l[k] := ⟨_, rfl⟩
   have hrw : r.wf := by rw [hr]; exact HWF.out _ (List.getElem_mem hkl)
   have hsu := actsP_succ l k hkl
   have hpl : ((l.take k).map actI).length = k := by simp; omega
   rw [← hr] at c0 c1' c2 c3 hsu
   have hbw := Nat.lt_of_lt_of_le hb h1.be.size
   have c0 := (h1.be.cell (p := ⟨b, o + k * 4, none⟩) hb).trans c0
   have c1' := (h1.be.cell (p := ⟨b, o + k * 4 + 1, none⟩) hb).trans c1'
   have c2 := (h1.be.cell (p := ⟨b, o + k * 4 + 2, none⟩) hb).trans c2
   have c3 := (h1.be.cell (p := ⟨b, o + k * 4 + 3, none⟩) hb).trans c3
   have hba := (Below.refl wr.heap.size wr).alloc (Nat.le_refl _) (.cells #[.int .i64 r.op, .int .i64 r.a, .int .i64 r.b, .int .i64 r.c] 23)
   have HR0 := Lib.hid (Blk.new wr 23 #[.int .i64 r.op, .int .i64 r.a, .int .i64 r.b, .int .i64 r.c])
   obtain ⟨L, hL⟩ : ∃ L, L = (l.take k).map actI := ⟨_, rfl⟩
   rw [← hL] at h1 hsu hpl
   have HSU := Lib.hid hsu
   have HPL := Lib.hid hpl
   have HRW := Lib.hid hrw
   have H1 := Lib.hid (h1.below hba)
   clear hsu hpl h1 hr hrw hcell hL hba
   go_upto_region 6 with fail
   refine (show ∀ W : World, Blk W wr.heap.size 23 #[.int .i64 r.op, .int .i64 r.a, .int .i64 r.b, .int .i64 r.c] → RowA w W A1 c1 L → Code.wp _ _ _ _ W from ?_) _ HR0.out H1.out
   clear HR0 H1 c0 c1' c2 c3 hbw hb
   intro W1 hR h1
   have r1 := hR.cell 1
   have r2 := hR.cell 2
   have r3 := hR.cell 3
   have rl := hR.lt
   simp at r1 r2 r3
   have HR := Lib.hid hR
   have H1 := Lib.hid h1
   clear hR h1
   have wf0 : wf64 0 := ⟨by decide, by decide⟩
   have w0 := HRW.out.1
   have wa := HRW.out.2.1
   have wb := HRW.out.2.2.1
   have wc := HRW.out.2.2.2
   have PA : Hid (∀ W : World, Calls Tryd.prog 13 #[.int .i64 r.a, .int .i64 3] W fun e w' => e = .returned (.int .i64 (pick r.a 3 : Nat)) ∧ W = w') := fun W => picked_any r.a 3 W wa.1 wa.2 (by omega) (by omega)
   have PB : Hid (∀ W : World, Calls Tryd.prog 13 #[.int .i64 r.b, .int .i64 6] W fun e w' => e = .returned (.int .i64 (pick r.b 6 : Nat)) ∧ W = w') := fun W => picked_any r.b 6 W wb.1 wb.2 (by omega) (by omega)
   have PC : Hid (∀ W : World, Calls Tryd.prog 13 #[.int .i64 r.c, .int .i64 3] W fun e w' => e = .returned (.int .i64 (pick r.c 3 : Nat)) ∧ W = w') := fun W => picked_any r.c 3 W wc.1 wc.2 (by omega) (by omega)
   have PK : Hid (∀ W : World, Calls Tryd.prog 13 #[.int .i64 r.op, .int .i64 30] W fun e w' => e = .returned (.int .i64 (pick r.op 30 : Nat)) ∧ W = w') := fun W => picked_any r.op 30 W w0.1 w0.2 (by omega) (by omega)
   have PD : Hid (∀ W : World, Calls Tryd.prog 13 #[.int .i64 r.c, .int .i64 30] W fun e w' => e = .returned (.int .i64 (pick r.c 30 : Nat)) ∧ W = w') := fun W => picked_any r.c 30 W wc.1 wc.2 (by omega) (by omega)
   have CD : Hid (∀ W : World, Calls Tryd.prog 12 #[.agg #[.int .i64 0, .int .i64 r.c, .int .i64 r.b, .int .i64 0]] W fun e w' => e = .returned (.string (dataS r.c r.b)) ∧ Below W.heap.size W w') := fun W => KData_any ⟨0, r.c, r.b, 0⟩ ⟨wf0, wc, wb, wf0⟩ W
   have ka : pick r.a 3 < 3 := pick_lt _ (by omega)
   have kb : pick r.b 6 < 6 := pick_lt _ (by omega)
   have kc : pick r.c 3 < 3 := pick_lt _ (by omega)
   have kd : pick r.c 30 < 30 := pick_lt _ (by omega)
   have kk : pick r.op 30 < 30 := pick_lt _ (by omega)
   clear w0 wa wb wc HRW
   refine actsR W1 wr.heap.size (pick r.a 3) (pick r.b 6) (pick r.c 3) r.a r.b r.c (nameA r.c) W1 _ (Below.drewN' (Below.refl _ _) 1) rl r1 r2 r3 kc PA PB PC (nameA_cell r.c) ?_
   intro listed W y8 y25 y26 y27 y28 y29 y30 y31 y32 y33 y34 y35 y36 y37 hall hJ
   obtain ⟨s, rfl, hs, hS⟩ := hJ.f14 (hall 14 (by decide))
   have hbW := hJ.w
   clear hJ hall PB PC r1 r2 r3 kc
   have r0 := (HR.out.below hbW rl).cell 0
   have r1 := (HR.out.below hbW rl).cell 1
   have r2 := (HR.out.below hbW rl).cell 2
   have r3 := (HR.out.below hbW rl).cell 3
   simp at r0 r1 r2 r3
   have rl := Nat.lt_of_lt_of_le rl hbW.size
   have HS := Lib.hid hS
   have HBW := Lib.hid hbW
   have HSG := Lib.hid hs
   clear hS hbW hs
   obtain ⟨K, hK⟩ : ∃ K, K = pick r.op 30 := ⟨_, rfl⟩
   rw [← hK] at PK kk
   have HAI : Hid (actI r = if K < 2 then ⟨2, 0, 0, 0, nameA r.c, noS⟩
 else if K = 2 then ⟨4, 0, 0, 0, nameA r.c, noS⟩
 else if K < 8 then ⟨5, (pick r.a 3 : Nat), 0, 0, nameA r.c, noS⟩
 else if K < 10 then ⟨6, (pick r.a 3 : Nat), (pick r.b 6 : Nat), 0, noS, noS⟩
 else if K < 17 then ⟨7, (pick r.a 3 : Nat), (pick r.b 6 : Nat), 1 + (pick r.c 30 : Nat), noS, noS⟩
 else if K < 24 then ⟨8, (pick r.a 3 : Nat), (pick r.b 6 : Nat), 0, noS, dataS r.c r.b⟩
 else if K < 26 then ⟨9, (pick r.a 3 : Nat), 0, 0, noS, noS⟩
 else if K < 29 then ⟨10, (pick r.a 3 : Nat), 0, 0, noS, noS⟩
 else ⟨11, 1 + (pick r.a 3 : Nat), 0, 0, noS, noS⟩) := by show _ = _; unfold actI; rw [← hK]; rfl
   generalize pick r.a 3 = pa at *
   generalize pick r.b 6 = pb at *
   generalize pick r.c 30 = pd at *
   generalize nameA r.c = nm at *
   generalize dataS r.c r.b = dd at *
   clear hK
   go_upto_block 2 with (refine (PK.out _).mono ?_; rintro e w' ⟨rfl, rfl⟩)
   go_cut [] (fun wx => Below W1.heap.size W1 wx ∧ Blk wx s 26 (actI r).cells)
   case first =>
    have s0 := HS.out.cell 0
    have s1 := HS.out.cell 1
    have s2 := HS.out.cell 2
    have s3 := HS.out.cell 3
    have s4 := HS.out.cell 4
    have s5 := HS.out.cell 5
    have g0 := HS.out.frozen 0
    have g1 := HS.out.frozen 1
    have g2 := HS.out.frozen 2
    have g3 := HS.out.frozen 3
    have g4 := HS.out.frozen 4
    have g5 := HS.out.frozen 5
    have sl := HS.out.lt
    simp at s0 s1 s2 s3 s4 s5
    by_cases q0 : K < 2
    ·have hai := HAI.out
     rw [if_pos q0] at hai
     have HAX2 := Lib.hid hai
     clear hai
     have i0 : (K : Int) < 2 := by omega
     clear q0
     go_wp2_with fail
     go_meet
     rw [HAX2.out]
     exact ⟨((((((HBW.out.setCell HSG.out _).setCell HSG.out _).setCell HSG.out _).setCell HSG.out _).setCell HSG.out _).setCell HSG.out _), ((((((HS.out.set_ 0 _).set_ 1 _).set_ 2 _).set_ 3 _).set_ 4 _).set_ 5 _)⟩
    by_cases q1 : K = 2
    ·have hai := HAI.out
     rw [if_neg q0, if_pos q1] at hai
     have HAX2 := Lib.hid hai
     clear hai
     have i0 : ¬ (K : Int) < 2 := by omega
     have i1 : ((K : Int) == 2) = true := by rw [beq_iff_eq]; omega
     clear q0 q1
     go_wp2_with fail
     go_meet
     rw [HAX2.out]
     exact ⟨((((((HBW.out.setCell HSG.out _).setCell HSG.out _).setCell HSG.out _).setCell HSG.out _).setCell HSG.out _).setCell HSG.out _), ((((((HS.out.set_ 0 _).set_ 1 _).set_ 2 _).set_ 3 _).set_ 4 _).set_ 5 _)⟩
    by_cases q2 : K < 8
    ·have hai := HAI.out
     rw [if_neg q0, if_neg q1, if_pos q2] at hai
     have HAX2 := Lib.hid hai
     clear hai
     have i0 : ¬ (K : Int) < 2 := by omega
     have i1 : ¬ (K : Int) = 2 := by omega
     have i2 : (K : Int) < 8 := by omega
     clear q0 q1 q2
     go_wp2_with fail
     go_meet
     rw [HAX2.out]
     exact ⟨((HBW.out.setCell HSG.out _).setCell HSG.out _), ((HS.out.set_ 0 _).set_ 2 _)⟩
    by_cases q3 : K < 10
    ·have hai := HAI.out
     rw [if_neg q0, if_neg q1, if_neg q2, if_pos q3] at hai
     have HAX2 := Lib.hid hai
     clear hai
     have i0 : ¬ (K : Int) < 2 := by omega
     have i1 : ¬ (K : Int) = 2 := by omega
     have i2 : ¬ (K : Int) < 8 := by omega
     have i3 : (K : Int) < 10 := by omega
     clear q0 q1 q2 q3
     go_wp2_with fail
     go_meet
     rw [HAX2.out]
     exact ⟨((HBW.out.setCell HSG.out _).setCell HSG.out _), ((HS.out.set_ 0 _).set_ 4 _)⟩
    by_cases q4 : K < 17
    ·have hai := HAI.out
     rw [if_neg q0, if_neg q1, if_neg q2, if_neg q3, if_pos q4] at hai
     have HAX2 := Lib.hid hai
     clear hai
     have i0 : ¬ (K : Int) < 2 := by omega
     have i1 : ¬ (K : Int) = 2 := by omega
     have i2 : ¬ (K : Int) < 8 := by omega
     have i3 : ¬ (K : Int) < 10 := by omega
     have i4 : (K : Int) < 17 := by omega
     clear q0 q1 q2 q3 q4
     go_wp2_with fail
     refine (PD.out _).mono ?_
     rintro e w' ⟨rfl, rfl⟩
     go_wp2_with fail
     go_meet
     rw [HAX2.out]
     exact ⟨(((HBW.out.setCell HSG.out _).setCell HSG.out _).setCell HSG.out _), (((HS.out.set_ 0 _).set_ 4 _).set_ 3 _)⟩
    by_cases q5 : K < 24
    ·have hai := HAI.out
     rw [if_neg q0, if_neg q1, if_neg q2, if_neg q3, if_neg q4, if_pos q5] at hai
     have HAX2 := Lib.hid hai
     clear hai
     have i0 : ¬ (K : Int) < 2 := by omega
     have i1 : ¬ (K : Int) = 2 := by omega
     have i2 : ¬ (K : Int) < 8 := by omega
     have i3 : ¬ (K : Int) < 10 := by omega
     have i4 : ¬ (K : Int) < 17 := by omega
     have i5 : (K : Int) < 24 := by omega
     clear q0 q1 q2 q3 q4 q5
     go_wp2_with fail
     refine (CD.out _).mono ?_
     rintro e w2 ⟨rfl, hb2⟩
     have HS2 := Lib.hid (HS.out.below hb2 HS.out.lt)
     have HBW2 := Lib.hid (HBW.out.trans (hb2.mono HBW.out.size))
     clear s0 s1 s2 s3 s4 s5 g0 g1 g2 g3 g4 g5 sl hb2
     have s0 := HS2.out.cell 0
     have s1 := HS2.out.cell 1
     have s2 := HS2.out.cell 2
     have s3 := HS2.out.cell 3
     have s4 := HS2.out.cell 4
     have s5 := HS2.out.cell 5
     have g0 := HS2.out.frozen 0
     have g1 := HS2.out.frozen 1
     have g2 := HS2.out.frozen 2
     have g3 := HS2.out.frozen 3
     have g4 := HS2.out.frozen 4
     have g5 := HS2.out.frozen 5
     have sl := HS2.out.lt
     simp at s0 s1 s2 s3 s4 s5
     go_wp2_with fail
     go_meet
     rw [HAX2.out]
     exact ⟨(((HBW2.out.setCell HSG.out _).setCell HSG.out _).setCell HSG.out _), (((HS2.out.set_ 0 _).set_ 4 _).set_ 5 _)⟩
    by_cases q6 : K < 26
    ·have hai := HAI.out
     rw [if_neg q0, if_neg q1, if_neg q2, if_neg q3, if_neg q4, if_neg q5, if_pos q6] at hai
     have HAX2 := Lib.hid hai
     clear hai
     have i0 : ¬ (K : Int) < 2 := by omega
     have i1 : ¬ (K : Int) = 2 := by omega
     have i2 : ¬ (K : Int) < 8 := by omega
     have i3 : ¬ (K : Int) < 10 := by omega
     have i4 : ¬ (K : Int) < 17 := by omega
     have i5 : ¬ (K : Int) < 24 := by omega
     have i6 : (K : Int) < 26 := by omega
     clear q0 q1 q2 q3 q4 q5 q6
     go_wp2_with fail
     go_meet
     rw [HAX2.out]
     exact ⟨((((((HBW.out.setCell HSG.out _).setCell HSG.out _).setCell HSG.out _).setCell HSG.out _).setCell HSG.out _).setCell HSG.out _), ((((((HS.out.set_ 0 _).set_ 1 _).set_ 2 _).set_ 3 _).set_ 4 _).set_ 5 _)⟩
    by_cases q7 : K < 29
    ·have hai := HAI.out
     rw [if_neg q0, if_neg q1, if_neg q2, if_neg q3, if_neg q4, if_neg q5, if_neg q6, if_pos q7] at hai
     have HAX2 := Lib.hid hai
     clear hai
     have i0 : ¬ (K : Int) < 2 := by omega
     have i1 : ¬ (K : Int) = 2 := by omega
     have i2 : ¬ (K : Int) < 8 := by omega
     have i3 : ¬ (K : Int) < 10 := by omega
     have i4 : ¬ (K : Int) < 17 := by omega
     have i5 : ¬ (K : Int) < 24 := by omega
     have i6 : ¬ (K : Int) < 26 := by omega
     have i7 : (K : Int) < 29 := by omega
     clear q0 q1 q2 q3 q4 q5 q6 q7
     go_wp2_with fail
     go_meet
     rw [HAX2.out]
     exact ⟨((((((HBW.out.setCell HSG.out _).setCell HSG.out _).setCell HSG.out _).setCell HSG.out _).setCell HSG.out _).setCell HSG.out _), ((((((HS.out.set_ 0 _).set_ 1 _).set_ 2 _).set_ 3 _).set_ 4 _).set_ 5 _)⟩
    have hai := HAI.out
    rw [if_neg q0, if_neg q1, if_neg q2, if_neg q3, if_neg q4, if_neg q5, if_neg q6, if_neg q7] at hai
    have HAX2 := Lib.hid hai
    clear hai
    have i0 : ¬ (K : Int) < 2 := by omega
    have i1 : ¬ (K : Int) = 2 := by omega
    have i2 : ¬ (K : Int) < 8 := by omega
    have i3 : ¬ (K : Int) < 10 := by omega
    have i4 : ¬ (K : Int) < 17 := by omega
    have i5 : ¬ (K : Int) < 24 := by omega
    have i6 : ¬ (K : Int) < 26 := by omega
    have i7 : ¬ (K : Int) < 29 := by omega
    clear q0 q1 q2 q3 q4 q5 q6 q7
    go_wp2_with fail
    refine (PA.out _).mono ?_
    rintro e w' ⟨rfl, rfl⟩
    go_wp2_with fail
    go_meet
    rw [HAX2.out]
    exact ⟨((((((HBW.out.setCell HSG.out _).setCell HSG.out _).setCell HSG.out _).setCell HSG.out _).setCell HSG.out _).setCell HSG.out _), ((((((HS.out.set_ 0 _).set_ 1 _).set_ 2 _).set_ 3 _).set_ 4 _).set_ 5 _)⟩
   case rest =>
    obtain ⟨hbx, hX⟩ := hcut
    have x0 := hX.cell 0
    have x1 := hX.cell 1
    have x2 := hX.cell 2
    have x3 := hX.cell 3
    have x4 := hX.cell 4
    have x5 := hX.cell 5
    have xl := hX.lt
    simp [Akt.cells] at x0 x1 x2 x3 x4 x5
    have H2 := Lib.hid (H1.out.below hbx)
    obtain ⟨y, hy⟩ : ∃ y, y = actI r := ⟨_, rfl⟩
    rw [← hy] at x0 x1 x2 x3 x4 x5 HSU
    clear hbx hX H1 hy
    go_wp2_with (at_builtin; (refine wp_app (l := L) [y] H2.out rfl (.tmp 102) (.tmp 104) rfl ?vs rfl rfl ?cs ?len ?_); (case vs => (show Value.slice _ k _ = _; rw [HPL.out])); (case cs => rfl); (case len => (rw [HPL.out]; simp; omega)); intro A2 c2 W3 h2)
    refine ⟨⟨k + 1, by omega, by go_num, A2, c2, by simp [HPL.out], by rw [HSU.out]; exact h2⟩, by simp [intOf]; omega⟩
  ·have hkl : k ≤ l.length := by omega
   have hkm : (l.take k).map actI = actsL l m := by
    unfold actsL
    congr 1
    have : k = min l.length m := by omega
    subst this
    rw [Nat.min_comm, ← List.take_take, List.take_length]
   have hln : ((l.take k).map actI).length = k := by simp; omega
   rw [hkm] at h1 hln
   have H1 := Lib.hid h1
   have HLN := Lib.hid hln
   have HC : (¬ (k : Int) < (l.length : Int)) ∨ ((k : Int) < (l.length : Int) ∧ ¬ (k : Int) < (m : Int)) := by omega
   clear h1 hkm hln hlt hk
   rcases HC with t1 | ⟨t1, t2⟩
   all_goals
    go_wp2_with fail
    go_ret
    exact ⟨A1, c1, by rw [HLN.out]; rfl, H1.out⟩
end Go.Proofs.YtdjamdbamkhblacDoor
namespace Go.Proofs.YtdjamdbamkhblacDoor
open Go.RowKit
set_option maxHeartbeats 1000000 in
theorem Equal_int (A A' : Option Addr) (c c' : Nat) (l : List Int) (w : World) (hr : RdN w w.heap.size A l) (hr' : RdN w w.heap.size A' l) (hl : l.length ≤ maxLen) :
  Calls Tryd.prog 21 #[.slice A l.length c, .slice A' l.length c'] w fun e w' => e = .returned (.bool true) ∧ ∃ n, w' = w.drewN n := by
 unfold maxLen at hl
 go_enter Tryd.func21, Tryd.ntmps21
 go_wp2
 go_loopw [13] (fun i wr => Cnt l.length i fun _ => ∃ n, wr = w.drewN n) (fun i _ => l.length - (intOf i).toNat)
 case atStart => exact ⟨0, Nat.zero_le _, rfl, 0, rfl⟩
 case round =>
  obtain ⟨k, hk, rfl, n, rfl⟩ := hrel
  by_cases hlt : k < l.length
  ·obtain ⟨b, o, rfl, hbB, hcell⟩ := hr (by omega)
   obtain ⟨b', o', rfl, hbB', hcell'⟩ := hr' (by omega)
   have c0 := hcell k hlt
   have d0 := hcell' k hlt
   clear hr hr' hcell hcell'
   generalize l[k] = z at *
   go_wp2
   go_quiet (fail)
   go_wp2
   exact ⟨⟨k + 1, by omega, by go_num, _, rfl⟩, by simp [intOf]; omega⟩
  ·go_wp2
   go_ret
   exact ⟨rfl, n, rfl⟩
end Go.Proofs.YtdjamdbamkhblacDoor
