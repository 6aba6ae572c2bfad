/- Proved: decoding the encoding of a module returns the module, and modified or truncated encodings are rejected: the law answers true. Condition: the listed tables hold what the program's text lays (the card ties them). -/
import Derived.Test.YtdjamdbamkhblabDoorBase
import Derived.Test.YtdjamdbamkhblabDoorInvR
import Derived.Test.YtdjamdbamkhblabDoorCells
import Derived.Test.YtdjamdbamkhblabDoorTch
import Derived.Test.YtdjamdbamkhblabDoorPick
import Derived.Test.YtdjamdbamkhblabDoorKPlain
import Derived.Test.YtdjamdbamkhblabDoorMake
import Derived.Test.YtdjamdbamkhblabDoorKMem
import Derived.Test.YtdjamdbamkhblabDoorEncode
import Derived.Test.YtdjamdbamkhblabDoorDecode
import Derived.Test.YtdjamdbamkhblabDoorCards
import Derived.Test.YtdjamdbamkhblabDoorTie
import Derived.Test.YtdjamdbamkhblabDoorLaid
import Derived.Test.YtdjamdbamkhblabDoorOpenRaw
namespace Go.Proofs.YtdjamdbamkhblabDoor
open Go.RowKit
set_option maxHeartbeats 1000000 in
theorem Equal_ins (A A' : Option Addr) (c c' : Nat) (l : List Ins) (w : World) (hr : RdI w w.heap.size A l) (hr' : RdI w w.heap.size A' l) (hl : l.length ≤ maxLen) :
    Calls Tryd.prog 34 #[.slice A l.length c, .slice A' l.length c'] w fun e w' => e = .returned (.bool true) ∧ ∃ n, w' = w.drewN n := by
  unfold maxLen at hl
  go_enter Tryd.func34, Tryd.ntmps34
  go_wp2
  go_loopw [13] (fun i wr => Cnt l.length i fun _ => ∃ n, wr = w.drewN n) (fun i _ => l.length - (intOf i).toNat)
  case atStart => exact ⟨0, Nat.zero_le _, rfl, 0, rfl⟩
  case round =>
    obtain ⟨k, hk, rfl, n, rfl⟩ := hrel
    by_cases hlt : k < l.length
    · obtain ⟨b, o, rfl, hbB, hcell⟩ := hr (by omega)
      obtain ⟨b', o', rfl, hbB', hcell'⟩ := hr' (by omega)
      obtain ⟨c0, c1, c2, c3⟩ := hcell k hlt
      obtain ⟨d0, d1, d2, d3⟩ := hcell' k hlt
      clear hr hr' hcell hcell'
      generalize l[k] = z at *
      go_wp2
      go_quiet (fail)
      go_wp2
      exact ⟨⟨k + 1, by omega, by go_num, _, rfl⟩, by simp [intOf]; omega⟩
    · go_wp2
      go_ret
      exact ⟨rfl, n, rfl⟩
end Go.Proofs.YtdjamdbamkhblabDoor
namespace Go.Proofs.YtdjamdbamkhblabDoor
open Go.RowKit
set_option maxHeartbeats 1000000 in
theorem Equal_int (A A' : Option Addr) (c c' : Nat) (l : List Int) (w : World) (hr : RdN w w.heap.size A l) (hr' : RdN w w.heap.size A' l) (hl : l.length ≤ maxLen) :
    Calls Tryd.prog 29 #[.slice A l.length c, .slice A' l.length c'] w fun e w' => e = .returned (.bool true) ∧ ∃ n, w' = w.drewN n := by
  unfold maxLen at hl
  go_enter Tryd.func29, Tryd.ntmps29
  go_wp2
  go_loopw [13] (fun i wr => Cnt l.length i fun _ => ∃ n, wr = w.drewN n) (fun i _ => l.length - (intOf i).toNat)
  case atStart => exact ⟨0, Nat.zero_le _, rfl, 0, rfl⟩
  case round =>
    obtain ⟨k, hk, rfl, n, rfl⟩ := hrel
    by_cases hlt : k < l.length
    · obtain ⟨b, o, rfl, hbB, hcell⟩ := hr (by omega)
      obtain ⟨b', o', rfl, hbB', hcell'⟩ := hr' (by omega)
      have c0 := hcell k hlt
      have d0 := hcell' k hlt
      clear hr hr' hcell hcell'
      generalize l[k] = z at *
      go_wp2
      go_quiet (fail)
      go_wp2
      exact ⟨⟨k + 1, by omega, by go_num, _, rfl⟩, by simp [intOf]; omega⟩
    · go_wp2
      go_ret
      exact ⟨rfl, n, rfl⟩
end Go.Proofs.YtdjamdbamkhblabDoor
namespace Go.Proofs.YtdjamdbamkhblabDoor
open Go.RowKit
set_option linter.unusedVariables false
set_option linter.unusedSimpArgs false
theorem mb_drew (w : World) : Below w.heap.size w w.drew := Below.drewN' (Below.refl _ _) 1
theorem mb_tr {t : TypeId} {a b c : World} (h : Tch t a b) (h' : Tch t b c) : Tch t a c :=
  ⟨h'.os.trans h.os, h'.tape.trans h.tape, h'.output.trans h.output, Nat.le_trans h.size h'.size, fun q hq hne => by
    have e := h.block q hq hne
    exact (h'.block q (Nat.lt_of_lt_of_le hq h.size) (by rw [e]; exact hne)).trans e⟩
theorem layMod {W : World} {B s : Nat} {c0 c1 c2 : Value} (hB : B ≤ s) (h : Blk W s 50 #[c0, c1, c2]) (v0 v1 v2 : Value) :
    Blk (((W.setCell ⟨s, 0, none⟩ v0).setCell ⟨s, 1, none⟩ v1).setCell ⟨s, 2, none⟩ v2) s 50 #[v0, v1, v2] ∧ Tch 50 W (((W.setCell ⟨s, 0, none⟩ v0).setCell ⟨s, 1, none⟩ v1).setCell ⟨s, 2, none⟩ v2) ∧ Below B W (((W.setCell ⟨s, 0, none⟩ v0).setCell ⟨s, 1, none⟩ v1).setCell ⟨s, 2, none⟩ v2) := by
  have h0 : Blk (W.setCell ⟨s, 0, none⟩ v0) s 50 #[v0, c1, c2] := h.set_ 0 v0
  have t0 : Tch 50 W (W.setCell ⟨s, 0, none⟩ v0) := Tch.of_set (p := ⟨s, 0, none⟩) h v0
  have h1 : Blk ((W.setCell ⟨s, 0, none⟩ v0).setCell ⟨s, 1, none⟩ v1) s 50 #[v0, v1, c2] := h0.set_ 1 v1
  have t1 : Tch 50 (W.setCell ⟨s, 0, none⟩ v0) ((W.setCell ⟨s, 0, none⟩ v0).setCell ⟨s, 1, none⟩ v1) := Tch.of_set (p := ⟨s, 1, none⟩) h0 v1
  have t2 : Tch 50 ((W.setCell ⟨s, 0, none⟩ v0).setCell ⟨s, 1, none⟩ v1) (((W.setCell ⟨s, 0, none⟩ v0).setCell ⟨s, 1, none⟩ v1).setCell ⟨s, 2, none⟩ v2) := Tch.of_set (p := ⟨s, 2, none⟩) h1 v2
  refine ⟨h1.set_ 2 v2, mb_tr (mb_tr t0 t1) t2, ?_⟩
  exact (((Below.refl B W).setCell (p := ⟨s, 0, none⟩) hB v0).setCell (p := ⟨s, 1, none⟩) hB v1).setCell (p := ⟨s, 2, none⟩) hB v2
structure MbJ (w0 : World) (b5 : Nat) (k0 k1 k2 k3 : Int) (q nc cc : Nat) (mem : List Int) (Ac : Option Addr) (listed : Array Bool) (W : World) (y11 y27 y28 y29 y30 y31 y32 y33 : Value) : Prop where
  f0 : listed.getD 0 true = true → y27 = .slice Ac nc cc
  f1 : listed.getD 1 true = true → y28 = .agg #[.int .i64 k0, .int .i64 k1, .int .i64 k2, .int .i64 k3]
  f2 : listed.getD 2 true = true → y29 = .pointer (some ⟨b5, 3, none⟩)
  f3 : listed.getD 3 true = true → y30 = .int .i64 k3
  f4 : listed.getD 4 true = true → y31 = .int .i64 (q : Int)
  f5 : listed.getD 5 true = true → ∃ s : Value, y32 = s ∧ W.ownsRow w0.heap.size 3 1 s mem.length (intCells mem)
  f6 : listed.getD 6 true = true → ∃ s : Value, y33 = .agg #[.string ⟨#[109, 111, 100]⟩, .slice Ac nc cc, s] ∧ W.ownsRow w0.heap.size 3 1 s mem.length (intCells mem)
  f7 : listed.getD 7 true = true → ∃ s : Nat, y11 = .pointer (some ⟨s, 0, none⟩) ∧ w0.heap.size ≤ s ∧ (listed.getD 8 true = false → Blk W s 50 #[.string ⟨#[]⟩, .slice none 0 0, .slice none 0 0])
  f8 : listed.getD 8 true = true → ∃ (s : Nat) (V : Value), y11 = .pointer (some ⟨s, 0, none⟩) ∧ w0.heap.size ≤ s ∧ Blk W s 50 #[.string ⟨#[109, 111, 100]⟩, .slice Ac nc cc, V] ∧ W.ownsRow w0.heap.size 3 1 V mem.length (intCells mem)
  q8_5 : listed.getD 8 true = true → listed.getD 5 true = true
  q8_7 : listed.getD 8 true = true → listed.getD 7 true = true
  w : Below w0.heap.size w0 W
noncomputable def mbRegC : Code := ((Tryd.f12.body.bind (regAt 2)).getD .skip)
set_option maxRecDepth 1000000 in
set_option maxHeartbeats 8000000 in
theorem mbReg (w0 : World) (b5 : Nat) (k0 k1 k2 k3 : Int) (q nc cc : Nat) (mem : List Int) (Ac : Option Addr) {v0 v1 v2 v3 v4 v6 v7 v8 v10 v11 v12 v13 v14 v15 v16 v17 v18 v19 v20 v21 v22 v23 v24 v25 v26 v27 v28 v29 v30 v31 v32 v33 v34 v35 v36 v37 v38 v39 v40 v41 v42 v43 v44 v45 v46 v47 v48 v49 v50 v51 v52 v53 v54 v55 v56 v57 v58 v59 v60 v61 v62 v63 v64 v65 v66 v67 v68 v69 v70 v71 v72 v73 v74 v75 v76 v77 v78 v79 v80 v81 v82 v83 v84 v85 v86 v87 v88 v89 v90 v91 v92 v93 v94 v95 v96 v97 v98 v99 v100 v101 v102 v103 v104 v105 v106 v107 v108 v109 v110 v111 v112 v113 : Value} (wr : World) (Q : Exit → Act → World → Prop) (hbs : Below w0.heap.size w0 wr.drew) (hraw : ∀ W : World, Below w0.heap.size w0 W → W.cell? ⟨b5, 0, none⟩ = some (.int .i64 k0) ∧ W.cell? ⟨b5, 1, none⟩ = some (.int .i64 k1) ∧ W.cell? ⟨b5, 2, none⟩ = some (.int .i64 k2) ∧ W.cell? ⟨b5, 3, none⟩ = some (.int .i64 k3)) (HP : Hid (∀ W : World, Calls Tryd.prog 22 #[.int .i64 k3, .int .i64 65] W fun e w' => e = .returned (.int .i64 (q : Nat)) ∧ W = w')) (hmem : ∀ W : World, Below w0.heap.size w0 W → Calls Tryd.prog 18 #[.agg #[.int .i64 k0, .int .i64 k1, .int .i64 k2, .int .i64 k3], .int .i64 (q : Int)] W fun e w' => ∃ V, e = .returned V ∧ w'.ownsRow W.heap.size 3 1 V mem.length (intCells mem) ∧ Below W.heap.size W w')
    (hQ : ∀ (listed : Array Bool) (W : World) (y11 y27 y28 y29 y30 y31 y32 y33 : Value), (∀ i, i < 9 → listed.getD i true = true) → MbJ w0 b5 k0 k1 k2 k3 q nc cc mem Ac listed W y11 y27 y28 y29 y30 y31 y32 y33 → Q .normal ⟨#[v0, v1, v2, v3, v4, .pointer (some ⟨b5, 0, none⟩), v6, v7, v8, .slice Ac nc cc, v10, y11, v12, v13, v14, v15, v16, v17, v18, v19, v20, v21, v22, v23, v24, v25, v26, y27, y28, y29, y30, y31, y32, y33, v34, v35, v36, v37, v38, v39, v40, v41, v42, v43, v44, v45, v46, v47, v48, v49, v50, v51, v52, v53, v54, v55, v56, v57, v58, v59, v60, v61, v62, v63, v64, v65, v66, v67, v68, v69, v70, v71, v72, v73, v74, v75, v76, v77, v78, v79, v80, v81, v82, v83, v84, v85, v86, v87, v88, v89, v90, v91, v92, v93, v94, v95, v96, v97, v98, v99, v100, v101, v102, v103, v104, v105, v106, v107, v108, v109, v110, v111, v112, v113], []⟩ W) :
    Code.wp Tryd.prog mbRegC Q ⟨#[v0, v1, v2, v3, v4, .pointer (some ⟨b5, 0, none⟩), v6, v7, v8, .slice Ac nc cc, v10, v11, v12, v13, v14, v15, v16, v17, v18, v19, v20, v21, v22, v23, v24, v25, v26, v27, v28, v29, v30, v31, v32, v33, v34, v35, v36, v37, v38, v39, v40, v41, v42, v43, v44, v45, v46, v47, v48, v49, v50, v51, v52, v53, v54, v55, v56, v57, v58, v59, v60, v61, v62, v63, v64, v65, v66, v67, v68, v69, v70, v71, v72, v73, v74, v75, v76, v77, v78, v79, v80, v81, v82, v83, v84, v85, v86, v87, v88, v89, v90, v91, v92, v93, v94, v95, v96, v97, v98, v99, v100, v101, v102, v103, v104, v105, v106, v107, v108, v109, v110, v111, v112, v113], []⟩ wr := by
  have HQ := Lib.hid hQ
  clear hQ
  conv => arg 2; whnf
  refine wp_region_inv (fun listed a W => ∃ y11 y27 y28 y29 y30 y31 y32 y33, MbJ w0 b5 k0 k1 k2 k3 q nc cc mem Ac listed W y11 y27 y28 y29 y30 y31 y32 y33 ∧ a = ⟨#[v0, v1, v2, v3, v4, .pointer (some ⟨b5, 0, none⟩), v6, v7, v8, .slice Ac nc cc, v10, y11, v12, v13, v14, v15, v16, v17, v18, v19, v20, v21, v22, v23, v24, v25, v26, y27, y28, y29, y30, y31, y32, y33, v34, v35, v36, v37, v38, v39, v40, v41, v42, v43, v44, v45, v46, v47, v48, v49, v50, v51, v52, v53, v54, v55, v56, v57, v58, v59, v60, v61, v62, v63, v64, v65, v66, v67, v68, v69, v70, v71, v72, v73, v74, v75, v76, v77, v78, v79, v80, v81, v82, v83, v84, v85, v86, v87, v88, v89, v90, v91, v92, v93, v94, v95, v96, v97, v98, v99, v100, v101, v102, v103, v104, v105, v106, v107, v108, v109, v110, v111, v112, v113], []⟩) (by kernel_rfl) (ord_of (by kernel_rfl)) ?start ?step ?fin
  case start => exact ⟨_, _, _, _, _, _, _, _, ⟨fun h => absurd h (by decide), fun h => absurd h (by decide), fun h => absurd h (by decide), fun h => absurd h (by decide), fun h => absurd h (by decide), fun h => absurd h (by decide), fun h => absurd h (by decide), fun h => absurd h (by decide), fun h => absurd h (by decide), fun h => absurd h (by decide), fun h => absurd h (by decide), hbs⟩, rfl⟩
  case step =>
    intro i o ho listed a W hl haf hI K hK
    obtain ⟨y11, y27, y28, y29, y30, y31, y32, y33, hJ, rfl⟩ := hI
    have hi : i < 9 := (Array.getElem?_eq_some_iff.1 ho).1
    have h16 : i = 0 ∨ i = 1 ∨ i = 2 ∨ i = 3 ∨ i = 4 ∨ i = 5 ∨ i = 6 ∨ i = 7 ∨ i = 8 := by omega
    rcases h16 with rfl | rfl | rfl | rfl | rfl | rfl | rfl | rfl | rfl
    · have ho' := Option.some.inj ho
      subst ho'
      have HJ := Lib.hid hJ
      clear hJ haf
      try unfold pt
      go_simp
      have hJ := HJ.out
      exact hK _ _ ⟨_, _, _, _, _, _, _, _, ⟨fun _ => rfl, fun x => hJ.f1 (upneR (by decide) x), fun x => hJ.f2 (upneR (by decide) x), fun x => hJ.f3 (upneR (by decide) x), fun x => hJ.f4 (upneR (by decide) x), fun x => hJ.f5 (upneR (by decide) x), fun x => hJ.f6 (upneR (by decide) x), fun x => by obtain ⟨s, e1, e2⟩ := hJ.f7 (upneR (by decide) x); exact ⟨s, e1, ⟨e2.1, fun e => e2.2 (by rw [upeqR (by decide)] at e; exact e)⟩⟩, fun x => hJ.f8 (upneR (by decide) x), fun x => by rw [upeqR (by decide)]; exact hJ.q8_5 (upneR (by decide) x), fun x => by rw [upeqR (by decide)]; exact hJ.q8_7 (upneR (by decide) x), hJ.w⟩, rfl⟩
    · have ho' := Option.some.inj ho
      subst ho'
      obtain ⟨q0, q1, q2, q3⟩ := hraw W hJ.w
      have HJ := Lib.hid hJ
      clear hJ haf
      try unfold pt
      go_simp
      have hJ := HJ.out
      exact hK _ _ ⟨_, _, _, _, _, _, _, _, ⟨fun x => hJ.f0 (upneR (by decide) x), fun _ => rfl, fun x => hJ.f2 (upneR (by decide) x), fun x => hJ.f3 (upneR (by decide) x), fun x => hJ.f4 (upneR (by decide) x), fun x => hJ.f5 (upneR (by decide) x), fun x => hJ.f6 (upneR (by decide) x), fun x => by obtain ⟨s, e1, e2⟩ := hJ.f7 (upneR (by decide) x); exact ⟨s, e1, ⟨e2.1, fun e => e2.2 (by rw [upeqR (by decide)] at e; exact e)⟩⟩, fun x => hJ.f8 (upneR (by decide) x), fun x => by rw [upeqR (by decide)]; exact hJ.q8_5 (upneR (by decide) x), fun x => by rw [upeqR (by decide)]; exact hJ.q8_7 (upneR (by decide) x), hJ.w⟩, rfl⟩
    · have ho' := Option.some.inj ho
      subst ho'
      have HJ := Lib.hid hJ
      clear hJ haf
      try unfold pt
      go_simp
      have hJ := HJ.out
      exact hK _ _ ⟨_, _, _, _, _, _, _, _, ⟨fun x => hJ.f0 (upneR (by decide) x), fun x => hJ.f1 (upneR (by decide) x), fun _ => rfl, fun x => hJ.f3 (upneR (by decide) x), fun x => hJ.f4 (upneR (by decide) x), fun x => hJ.f5 (upneR (by decide) x), fun x => hJ.f6 (upneR (by decide) x), fun x => by obtain ⟨s, e1, e2⟩ := hJ.f7 (upneR (by decide) x); exact ⟨s, e1, ⟨e2.1, fun e => e2.2 (by rw [upeqR (by decide)] at e; exact e)⟩⟩, fun x => hJ.f8 (upneR (by decide) x), fun x => by rw [upeqR (by decide)]; exact hJ.q8_5 (upneR (by decide) x), fun x => by rw [upeqR (by decide)]; exact hJ.q8_7 (upneR (by decide) x), hJ.w⟩, rfl⟩
    · have ho' := Option.some.inj ho
      subst ho'
      simp [Region.binds] at haf
      have p2 : listed.getD 2 true = true := waitsR (by simp [haf])
      obtain rfl := hJ.f2 p2
      obtain ⟨q0, q1, q2, q3⟩ := hraw W hJ.w
      have HJ := Lib.hid hJ
      clear hJ haf
      try unfold pt
      go_simp
      have hJ := HJ.out
      exact hK _ _ ⟨_, _, _, _, _, _, _, _, ⟨fun x => hJ.f0 (upneR (by decide) x), fun x => hJ.f1 (upneR (by decide) x), fun x => hJ.f2 (upneR (by decide) x), fun _ => rfl, fun x => hJ.f4 (upneR (by decide) x), fun x => hJ.f5 (upneR (by decide) x), fun x => hJ.f6 (upneR (by decide) x), fun x => by obtain ⟨s, e1, e2⟩ := hJ.f7 (upneR (by decide) x); exact ⟨s, e1, ⟨e2.1, fun e => e2.2 (by rw [upeqR (by decide)] at e; exact e)⟩⟩, fun x => hJ.f8 (upneR (by decide) x), fun x => by rw [upeqR (by decide)]; exact hJ.q8_5 (upneR (by decide) x), fun x => by rw [upeqR (by decide)]; exact hJ.q8_7 (upneR (by decide) x), hJ.w⟩, rfl⟩
    · have ho' := Option.some.inj ho
      subst ho'
      simp [Region.binds] at haf
      have p3 : listed.getD 3 true = true := waitsR (by simp [haf])
      obtain rfl := hJ.f3 p3
      have HJ := Lib.hid hJ
      clear hJ haf
      try unfold pt
      go_simp
      go_at_call 22
      refine (HP.out _).mono ?_
      rintro e w' ⟨rfl, rfl⟩
      have hJ := HJ.out
      exact hK _ _ ⟨_, _, _, _, _, _, _, _, ⟨fun x => hJ.f0 (upneR (by decide) x), fun x => hJ.f1 (upneR (by decide) x), fun x => hJ.f2 (upneR (by decide) x), fun x => hJ.f3 (upneR (by decide) x), fun _ => rfl, fun x => hJ.f5 (upneR (by decide) x), fun x => hJ.f6 (upneR (by decide) x), fun x => by obtain ⟨s, e1, e2⟩ := hJ.f7 (upneR (by decide) x); exact ⟨s, e1, ⟨e2.1, fun e => e2.2 (by rw [upeqR (by decide)] at e; exact e)⟩⟩, fun x => hJ.f8 (upneR (by decide) x), fun x => by rw [upeqR (by decide)]; exact hJ.q8_5 (upneR (by decide) x), fun x => by rw [upeqR (by decide)]; exact hJ.q8_7 (upneR (by decide) x), hJ.w⟩, rfl⟩
    · have ho' := Option.some.inj ho
      subst ho'
      simp [Region.binds] at haf
      have p1 : listed.getD 1 true = true := waitsR (by simp [haf])
      have p4 : listed.getD 4 true = true := waitsR (by simp [haf])
      obtain rfl := hJ.f1 p1
      obtain rfl := hJ.f4 p4
      have hc := hmem W hJ.w
      have HJ := Lib.hid hJ
      clear hJ haf
      try unfold pt
      go_simp
      go_at_call 18
      refine hc.mono ?_
      rintro e' w2 ⟨V, rfl, hV, hb2⟩
      have hJ := HJ.out
      exact hK _ _ ⟨_, _, _, _, _, _, _, _, ⟨fun x => hJ.f0 (upneR (by decide) x), fun x => hJ.f1 (upneR (by decide) x), fun x => hJ.f2 (upneR (by decide) x), fun x => hJ.f3 (upneR (by decide) x), fun x => hJ.f4 (upneR (by decide) x), fun _ => ⟨V, rfl, own_base hV hJ.w.size⟩, fun x => by obtain ⟨s, e1, e2⟩ := hJ.f6 (upneR (by decide) x); exact ⟨s, e1, own_below e2 hb2⟩, fun x => by obtain ⟨s, e1, e2⟩ := hJ.f7 (upneR (by decide) x); exact ⟨s, e1, ⟨e2.1, fun e => (e2.2 (by rw [upeqR (by decide)] at e; exact e)).below hb2 (e2.2 (by rw [upeqR (by decide)] at e; exact e)).lt⟩⟩, fun x => by have e := hJ.q8_5 (upneR (by decide) x); rw [hl] at e; exact absurd e (by decide), fun _ => upselfR, fun x => by rw [upeqR (by decide)]; exact hJ.q8_7 (upneR (by decide) x), hJ.w.trans (hb2.mono hJ.w.size)⟩, rfl⟩
    · have ho' := Option.some.inj ho
      subst ho'
      simp [Region.binds] at haf
      have p0 : listed.getD 0 true = true := waitsR (by simp [haf])
      have p5 : listed.getD 5 true = true := waitsR (by simp [haf])
      obtain rfl := hJ.f0 p0
      obtain ⟨s5, rfl, hE5⟩ := hJ.f5 p5
      obtain ⟨AM, cM, rfl⟩ := own_slice hE5
      have HJ := Lib.hid hJ
      clear hJ haf
      try unfold pt
      go_simp
      have hJ := HJ.out
      exact hK _ _ ⟨_, _, _, _, _, _, _, _, ⟨fun x => hJ.f0 (upneR (by decide) x), fun x => hJ.f1 (upneR (by decide) x), fun x => hJ.f2 (upneR (by decide) x), fun x => hJ.f3 (upneR (by decide) x), fun x => hJ.f4 (upneR (by decide) x), fun x => hJ.f5 (upneR (by decide) x), fun _ => ⟨_, rfl, hE5⟩, fun x => by obtain ⟨s, e1, e2⟩ := hJ.f7 (upneR (by decide) x); exact ⟨s, e1, ⟨e2.1, fun e => e2.2 (by rw [upeqR (by decide)] at e; exact e)⟩⟩, fun x => hJ.f8 (upneR (by decide) x), fun x => by rw [upeqR (by decide)]; exact hJ.q8_5 (upneR (by decide) x), fun x => by rw [upeqR (by decide)]; exact hJ.q8_7 (upneR (by decide) x), hJ.w⟩, rfl⟩
    · have ho' := Option.some.inj ho
      subst ho'
      have HJ := Lib.hid hJ
      clear hJ haf
      try unfold pt
      go_simp
      have hJ := HJ.out
      exact hK _ _ ⟨_, _, _, _, _, _, _, _, ⟨fun x => hJ.f0 (upneR (by decide) x), fun x => hJ.f1 (upneR (by decide) x), fun x => hJ.f2 (upneR (by decide) x), fun x => hJ.f3 (upneR (by decide) x), fun x => hJ.f4 (upneR (by decide) x), fun x => by obtain ⟨s, e1, e2⟩ := hJ.f5 (upneR (by decide) x); exact ⟨s, e1, own_below e2 ((Below.refl _ _).alloc (Nat.le_refl _) _)⟩, fun x => by obtain ⟨s, e1, e2⟩ := hJ.f6 (upneR (by decide) x); exact ⟨s, e1, own_below e2 ((Below.refl _ _).alloc (Nat.le_refl _) _)⟩, fun _ => ⟨W.heap.size, rfl, hJ.w.size, fun _ => Blk.new _ _ _⟩, fun x => by have e := hJ.q8_7 (upneR (by decide) x); rw [hl] at e; exact absurd e (by decide), fun x => by rw [upeqR (by decide)]; exact hJ.q8_5 (upneR (by decide) x), fun _ => upselfR, hJ.w.alloc hJ.w.size _⟩, rfl⟩
    · have ho' := Option.some.inj ho
      subst ho'
      simp [Region.binds] at haf
      have p7 : listed.getD 7 true = true := waitsR (by simp [haf])
      have p6 : listed.getD 6 true = true := waitsR (by simp [haf])
      have p5 : listed.getD 5 true = true := waitsR (by simp [haf])
      obtain ⟨s7, rfl, hE7⟩ := hJ.f7 p7
      obtain ⟨s6, rfl, hE6⟩ := hJ.f6 p6
      obtain ⟨s5, rfl, hE5⟩ := hJ.f5 p5
      obtain ⟨hge, hbl⟩ := hE7
      have hbl := hbl hl
      have hlt := hbl.lt
      have fz0 := hbl.frozen 0
      have fz1 := hbl.frozen 1
      have fz2 := hbl.frozen 2
      have m0 := hbl.cell 0
      have m1 := hbl.cell 1
      have m2 := hbl.cell 2
      simp at m0 m1 m2
      obtain ⟨AM, cM, rfl⟩ := own_slice hE6
      have HL := Lib.hid (layMod (B := w0.heap.size) hge hbl (.string ⟨#[109, 111, 100]⟩) (.slice Ac nc cc) (.slice AM mem.length cM))
      have HJ := Lib.hid hJ
      clear hJ haf
      try unfold pt
      go_simp
      have hJ := HJ.out
      have L := HL.out
      exact hK _ _ ⟨_, _, _, _, _, _, _, _, ⟨fun x => hJ.f0 (upneR (by decide) x), fun x => hJ.f1 (upneR (by decide) x), fun x => hJ.f2 (upneR (by decide) x), fun x => hJ.f3 (upneR (by decide) x), fun x => hJ.f4 (upneR (by decide) x), fun x => by obtain ⟨s, e1, e2⟩ := hJ.f5 (upneR (by decide) x); exact ⟨s, e1, own_tch e2 L.2.1 (by decide)⟩, fun x => by obtain ⟨s, e1, e2⟩ := hJ.f6 (upneR (by decide) x); exact ⟨s, e1, own_tch e2 L.2.1 (by decide)⟩, fun x => by obtain ⟨s, e1, e2⟩ := hJ.f7 (upneR (by decide) x); exact ⟨s, e1, ⟨e2.1, fun e => absurd e (by rw [upselfR]; decide)⟩⟩, fun _ => ⟨s7, _, rfl, hge, L.1, own_tch hE6 L.2.1 (by decide)⟩, fun _ => by rw [upeqR (by decide)]; exact p5, fun _ => by rw [upeqR (by decide)]; exact p7, hJ.w.trans L.2.2⟩, rfl⟩
  case fin =>
    intro listed a W hall hI
    obtain ⟨y11, y27, y28, y29, y30, y31, y32, y33, hJ, rfl⟩ := hI
    exact HQ.out listed W _ _ _ _ _ _ _ _ hall hJ
end Go.Proofs.YtdjamdbamkhblabDoor
namespace Go.Proofs.YtdjamdbamkhblabDoor
open Go.RowKit
set_option linter.unusedVariables false
set_option linter.unusedSimpArgs false
def modS : ByteArray := ⟨#[109, 111, 100]⟩
def mbM (l : List Ins) (ra : Ins) : Mod := ⟨modS, madeOf (plainL l), memTo ra (pick ra.c 65)⟩
theorem mb_make (l : List Ins) : makeOf (plainL l) = (madeOf (plainL l), 0) := by
  have h1 := plainL_ok l
  have h2 := plainL_plainB l
  have h3 := plainL_made l
  have hc : check (plainL l) = 0 := (check_zero_iff _).2 ⟨by omega, h1.2.1⟩
  unfold makeOf
  rw [if_pos hc, if_pos (by unfold plainB; simp [h2]), if_neg (by omega)]
theorem mb_q (ra : Ins) : pick ra.c 65 < 65 := pick_lt _ (by omega)
theorem mb_ok (l : List Ins) (ra : Ins) : modCheck (mbM l ra) = 0 := by
  have h3 := plainL_made l
  have hq := mb_q ra
  unfold modCheck mbM
  rw [if_pos (show nameOk modS = true by decide), if_neg (by rw [memTo_length]; omega), memTo_odd, if_neg (by decide)]
  exact h3.2.2
theorem mb_words (l : List Ins) (ra : Ins) : ∀ n ∈ (mbM l ra).data, 0 ≤ n ∧ n ≤ 65535 := fun n hn => by
  have h := memTo_odd ra (pick ra.c 65)
  rw [List.any_eq_false] at h
  have := h n hn
  simp [oddW] at this
  omega
theorem mb_get (l : List Ins) (ra : Ins) : getM (bodyB (mbM l ra)) = some (mbM l ra, []) := by
  have h3 := plainL_made l
  have hq := mb_q ra
  have hv : verify (madeOf (plainL l)) = 0 := h3.2.2
  have hc := codeOk_of_check (verify_check hv)
  refine getM_body _ (show modS.size ≤ 255 by decide) (by show (madeOf (plainL l)).length ≤ 255; omega) (by show (memTo ra _).length ≤ 255; rw [memTo_length]; omega) (fun i hi => ?_) (mb_words l ra)
  have h := hc i hi
  exact ⟨⟨by have := h.op1; omega, by have := h.op2; omega⟩, ⟨h.a0, by have := h.a7; omega⟩, ⟨h.b0, by have := h.b7; omega⟩, h.c0, h.cw⟩
theorem flat_len {α : Type} (f : α → List UInt8) (s : Nat) (hf : ∀ x, (f x).length = s) : ∀ l : List α, (l.flatMap f).length = s * l.length
  | [] => rfl
  | x :: r => by rw [List.flatMap_cons, List.length_append, hf, flat_len f s hf r, List.length_cons, Nat.mul_succ]; omega
theorem mb_len (l : List Ins) (ra : Ins) : 6 ≤ (encB (mbM l ra)).length ∧ (encB (mbM l ra)).length ≤ 4000 := by
  have h3 := plainL_made l
  have hq := mb_q ra
  have e : (encB (mbM l ra)).length = 4 + (1 + 3 + 1 + 4 * (madeOf (plainL l)).length + 1 + 2 * (memTo ra (pick ra.c 65)).length) := by
    unfold encB bodyB mbM
    simp only [List.length_append, sealL_length, flat_len insB 4 (fun _ => rfl), flat_len wordB 2 (fun _ => rfl), List.length_cons, List.length_nil]
    rfl
  rw [memTo_length] at e
  omega
/-- The bytes with one changed. -/
def setB (E : List UInt8) (k : Nat) (y : Int) : List UInt8 := E.set k (u8 (((E.getD k 0).toNat : Int) + y).toNat)
theorem setB_get {E : List UInt8} {k j : Nat} {y : Int} (hj : j < (setB E k y).length) (hj' : j < E.length) : (setB E k y)[j] = if k = j then u8 (((E.getD k 0).toNat : Int) + y).toNat else E[j] := by
  unfold setB at hj ⊢
  exact List.getElem_set _
theorem mb_dec (l : List Ins) (ra : Ins) : decR (ba (encB (mbM l ra))) = (mbM l ra, 0) := by
  have := dec_enc (mbM l ra) modCheck (mb_len l ra).2 (mb_get l ra) (mb_ok l ra)
  unfold decR
  rw [show (ba (encB (mbM l ra))).data.toList = encB (mbM l ra) from rfl, this]
  rfl
theorem mb_sum (l : List Ins) (ra : Ins) (k : Nat) (hk : k < (encB (mbM l ra)).length) (y : Int) (h0 : 0 < y) (h1 : y ≤ 255) : (decR (ba (setB (encB (mbM l ra)) k y))).2 = 11 := by
  unfold decR setB
  rw [show (ba ((encB (mbM l ra)).set k _)).data.toList = (encB (mbM l ra)).set k _ from rfl]
  rw [dec_changed (mbM l ra) modCheck (mb_len l ra).2 k hk _ (fun e => ?_)]
  have hg : (encB (mbM l ra)).getD k 0 = (encB (mbM l ra))[k] := by rw [List.getD_eq_getElem?_getD, List.getElem?_eq_getElem hk]; rfl
  rw [List.getElem?_eq_getElem hk, hg] at e
  have e2 := congrArg UInt8.toNat (Option.some.inj e)
  rw [u8_toNat] at e2
  have := u8_lt (encB (mbM l ra))[k]
  omega
theorem mb_short (E : List UInt8) : (decR (ba (E.take 3))).2 = 5 := by
  unfold decR decE
  rw [show (ba (E.take 3)).data.toList = E.take 3 from rfl]
  have : (E.take 3).length ≤ 3 := by rw [List.length_take]; omega
  rw [if_neg (by omega), if_pos (by omega)]
theorem enc_ok (l : List Ins) (ra : Ins) : encR (mbM l ra) = (ba (encB (mbM l ra)), 0) := by unfold encR; rw [if_pos (mb_ok l ra)]
theorem conv_list {W : World} {g cap n : Nat} {R : List UInt8} (hn : R.length = n) (h : ∀ j (hj : j < R.length), W.cell? ⟨g, j, none⟩ = some (.int .u8 (R[j].toNat : Int))) :
    (convert 71 9 (.slice (some ⟨g, 0, none⟩) n cap)).run Tryd.prog W = .ok (.string (ba R)) W := by
  have e := run_convert_bytes_arg W 71 5 Tryd.underlying71 Tryd.underlying5 g 0 n cap (R.map fun x => (x.toNat : Int)) (by simpa using hn) (fun i hi => by
    have hi' : i < R.length := by omega
    rw [Nat.zero_add, h i hi']
    simp [List.getD, List.getElem?_eq_getElem hi']) 9 Tryd.underlying9
  rw [e, nums_ba, List.map_map]
  have : (fun n => u8 n.toNat) ∘ (fun x : UInt8 => (x.toNat : Int)) = id := by
    funext x
    simp [u8]
  rw [this, List.map_id]
/-- Bytes of one's own, in a block: they may be written. -/
structure ByBlk (W : World) (g : Nat) (R : List UInt8) : Prop where
  lt : g < W.heap.size
  cell : ∀ j (hj : j < R.length), W.cell? ⟨g, j, none⟩ = some (.int .u8 (R[j].toNat : Int))
  free : ∀ j, j < R.length → W.frozen? ⟨g, j, none⟩ = false
theorem conv_by (W : World) (R : List UInt8) : ∃ cap, (convert 9 71 (.string (ba R))).run Tryd.prog W = .ok (.slice (some ⟨W.heap.size, 0, none⟩) R.length cap) (Lib.bytesWorld W 5 (ba R)) ∧
    ByBlk (Lib.bytesWorld W 5 (ba R)) W.heap.size R ∧ Below W.heap.size W (Lib.bytesWorld W 5 (ba R)) := by
  refine ⟨grownCap W R.length 0 5, Lib.run_convert_string_bytes W 9 71 5 (ba R) Tryd.underlying9 Tryd.underlying71 Tryd.underlying5, ⟨by rw [Lib.bytesWorld_size]; omega, fun j hj => ?_, fun j hj => ?_⟩, ⟨rfl, rfl, rfl, by rw [Lib.bytesWorld_size]; omega, fun k hk => Lib.bytesWorld_at_old W _ (ba R) k hk⟩⟩
  · rw [Lib.bytesWorld_cell W _ (ba R) j hj]
    simp [ba, List.getD, List.getElem?_eq_getElem hj]
  · have := Lib.bytesWorld_at_new W 5 (ba R)
    have hsz : j < (Lib.bytesCells W 5 (ba R)).size := by simp [Lib.bytesCells, ba]; omega
    simp [World.frozen?, this]
    omega
set_option maxRecDepth 100000 in
set_option maxHeartbeats 4000000 in
theorem ModBack_any (A : Option Addr) (c : Nat) (l : List Ins) (ra : Ins) (at_ : Int) (y : Int) (w : World) (hr : RdI w w.heap.size A l) (hwf : ∀ i ∈ l, i.wf) (hl : l.length ≤ maxLen) (hra : ra.wf) (wn : (Lit.int .i64 at_).wf = true) (wy : (Lit.int .u8 y).wf = true) (ht : Tab w) :
    Calls Tryd.prog 12 #[.slice A l.length c, .agg #[.int .i64 ra.op, .int .i64 ra.a, .int .i64 ra.b, .int .i64 ra.c], .int .i64 at_, .int .u8 y] w fun e w' => e = .returned (.bool true) ∧ Below w.heap.size w w' := by
  obtain ⟨n1, n2⟩ := wf64_of wn
  obtain ⟨y1, y2⟩ : 0 ≤ y ∧ y ≤ 255 := by simpa [Lit.wf, IntKind.min, IntKind.max, IntKind.signed, IntKind.bits] using wy
  have hb0 := (Below.refl w.heap.size w).alloc (Nat.le_refl _) (.cells #[.int .i64 ra.op, .int .i64 ra.a, .int .i64 ra.b, .int .i64 ra.c] 24)
  have HX0 := Lib.hid (Blk.new w 24 #[.int .i64 ra.op, .int .i64 ra.a, .int .i64 ra.b, .int .i64 ra.c])
  have HMK : Hid (makeOf (plainL l) = ((mbM l ra).code, 0)) := mb_make l
  have KP := Lib.hid (KPlain_any A c l _ ((hr.below hb0).more hb0.size) hwf hl)
  have h1 := plainL_ok l
  have h3 := plainL_made l
  have HOK := Lib.hid (mb_ok l ra)
  have HEN := Lib.hid (enc_ok l ra)
  have HD1 := Lib.hid (mb_dec l ra)
  have hE := mb_len l ra
  have HSM := Lib.hid (fun k hk => mb_sum l ra k hk y)
  have hq := mb_q ra
  have HKM : Hid (∀ W : World, Calls Tryd.prog 18 #[.agg #[.int .i64 ra.op, .int .i64 ra.a, .int .i64 ra.b, .int .i64 ra.c], .int .i64 ((pick ra.c 65 : Nat) : Int)] W fun e w' => ∃ V, e = .returned V ∧ w'.ownsRow W.heap.size 3 1 V (mbM l ra).data.length (intCells (mbM l ra).data) ∧ Below W.heap.size W w') := fun W => by
    show Calls _ _ _ _ fun e w' => ∃ V, e = .returned V ∧ w'.ownsRow W.heap.size 3 1 V (memTo ra (pick ra.c 65)).length (intCells (memTo ra (pick ra.c 65))) ∧ Below W.heap.size W w'
    rw [memTo_length]; exact KMem_any ra hra (pick ra.c 65) (by omega) W
  have HPQ : Hid (∀ W : World, Calls Tryd.prog 22 #[.int .i64 ra.c, .int .i64 65] W fun e w' => e = .returned (.int .i64 (pick ra.c 65 : Nat)) ∧ W = w') := fun W => picked_any ra.c 65 W hra.2.2.2.1 hra.2.2.2.2 (by omega) (by omega)
  have HCL : Hid ((mbM l ra).code.length ≤ 200 ∧ (mbM l ra).data.length ≤ 64 ∧ (mbM l ra).name = modS) := ⟨by show (madeOf (plainL l)).length ≤ 200; omega, by show (memTo ra _).length ≤ 64; rw [memTo_length]; omega, rfl⟩
  obtain ⟨p, hp⟩ : ∃ p, p = plainL l := ⟨_, rfl⟩
  rw [← hp] at KP HMK h1
  have HPL := Lib.hid (show p.length ≤ maxLen by unfold maxLen; omega)
  obtain ⟨m, hm⟩ : ∃ m, m = mbM l ra := ⟨_, rfl⟩
  rw [← hm] at HMK HOK HEN HD1 HSM HKM HCL hE
  obtain ⟨E, hEE⟩ : ∃ E, E = encB m := ⟨_, rfl⟩
  rw [← hEE] at HEN HD1 HSM hE
  obtain ⟨q, hqq⟩ : ∃ q, q = pick ra.c 65 := ⟨_, rfl⟩
  rw [← hqq] at HKM HPQ
  obtain ⟨k, hkk⟩ : ∃ k, pick at_ E.length = k := ⟨_, rfl⟩
  have hk : k < E.length := by rw [← hkk]; exact pick_lt at_ (by omega)
  have C1 : Hid (∀ W : World, Calls Tryd.prog 22 #[.int .i64 at_, .int .i64 (E.length : Int)] W fun e w' => e = .returned (.int .i64 (k : Nat)) ∧ W = w') := fun W => by
    rw [← hkk]; exact picked_any at_ E.length W n1 n2 (by omega) (by omega)
  have HT := Lib.hid ht
  have HB0 := Lib.hid hb0
  clear hp hm hEE hqq hkk h1 h3 hq hb0 wn wy n1 n2 hr hwf hl ht hra
  go_enter Tryd.func12, Tryd.ntmps12
  go_wp2_with fail
  refine KP.out.mono ?_
  rintro e w1 ⟨V, rfl, hV, hb1⟩
  obtain ⟨A1, c1, rfl⟩ := own_slice hV
  have HB1 := Lib.hid (HB0.out.trans (hb1.mono HB0.out.size))
  have HX1 := Lib.hid (HX0.out.below hb1 HX0.out.lt)
  have HMA := Lib.hid (Make_any A1 c1 p w1 (RdI.of (Rd.of_own hV)) (HT.out.below HB1.out) HPL.out)
  clear hV hb1
  go_wp2_with fail
  refine HMA.out.mono ?_
  rw [HMK.out]
  rintro e w2 ⟨V2, rfl, hV2, hb2⟩
  obtain ⟨A2, c2, rfl⟩ := own_slice hV2
  have HB2 := Lib.hid (HB1.out.trans (hb2.mono HB1.out.size))
  have HX2 := Lib.hid (HX1.out.below hb2 HX1.out.lt)
  have HR2 := Lib.hid (RdI.of (Rd.of_own hV2))
  clear hV2 hb2
  go_upto_region 2 with fail
  refine mbReg w2 w.heap.size ra.op ra.a ra.b ra.c q m.code.length c2 m.data A2 w2 _ (mb_drew _) (fun W hW => ?_) HPQ (fun W hW => HKM.out W) ?_
  · have hX := HX2.out.below hW HX2.out.lt
    exact ⟨hX.cell 0, hX.cell 1, hX.cell 2, hX.cell 3⟩
  intro listed W y11 y27 y28 y29 y30 y31 y32 y33 hall hJ
  obtain ⟨s, V3, rfl, hge, hbl, ho⟩ := hJ.f8 (hall 8 (by decide))
  obtain ⟨A3, c3, rfl⟩ := own_slice ho
  have hw := hJ.w
  have HB3 := Lib.hid (HB2.out.trans (hw.mono HB2.out.size))
  have HR3 := Lib.hid ((HR2.out.below hw).more hw.size)
  have HO3 := Lib.hid (RdN.of (Rd.of_own ho))
  have HM3 := Lib.hid hbl
  have m0 : W.cell? ⟨s, 0, none⟩ = some (.string modS) := hbl.cell 0
  have m1 : W.cell? ⟨s, 1, none⟩ = some (.slice A2 m.code.length c2) := hbl.cell 1
  have m2 : W.cell? ⟨s, 2, none⟩ = some (.slice A3 m.data.length c3) := hbl.cell 2
  have sl := hbl.lt
  have HENC := Lib.hid (Encode_any m A2 A3 c2 c3 W (by rw [HCL.out.2.2]; decide) HR3.out HO3.out (HT.out.below HB3.out) (by have := HCL.out.1; unfold maxLen; omega) (by have := HCL.out.2.1; unfold maxLen; omega))
  rw [HEN.out, HCL.out.2.2] at HENC
  clear hJ hw ho hbl
  go_wp2_with fail
  refine HENC.out.mono ?_
  rintro e w4 ⟨rfl, hb4⟩
  have HB4 := Lib.hid (HB3.out.trans (hb4.mono HB3.out.size))
  have HM4 := Lib.hid (HM3.out.below hb4 HM3.out.lt)
  have HR4 := Lib.hid ((HR3.out.below hb4).more hb4.size)
  have HO4 := Lib.hid ((HO3.out.below hb4).more hb4.size)
  have HDE := Lib.hid (Decode_ba E w4 (by have := hE.2; unfold maxLen; omega) (HT.out.below HB4.out))
  rw [HD1.out] at HDE
  clear hb4 m0 m1 m2 sl HENC
  go_wp2_with fail
  refine HDE.out.mono ?_
  rintro e w5 ⟨VC, VD, rfl, hVC, hVD, hb5⟩
  obtain ⟨A5, c5, rfl⟩ := own_slice hVC
  obtain ⟨A6, c6, rfl⟩ := own_slice hVD
  simp only at hVC hVD
  rw [HCL.out.2.2]
  have HB5 := Lib.hid (HB4.out.trans (hb5.mono HB4.out.size))
  have HM5 := Lib.hid (HM4.out.below hb5 HM4.out.lt)
  have HR5 := Lib.hid ((HR4.out.below hb5).more hb5.size)
  have HO5 := Lib.hid ((HO4.out.below hb5).more hb5.size)
  have HS5 := Lib.hid (RdI.of (Rd.of_own hVC))
  have HP5 := Lib.hid (RdN.of (Rd.of_own hVD))
  clear hVC hVD hb5 HDE
  go_upto_region 5 with fail
  have hN := Blk.new w5 50 #[.string modS, .slice A5 m.code.length c5, .slice A6 m.data.length c6]
  have hbn := (Below.refl w5.heap.size w5).alloc (Nat.le_refl _) (.cells #[.string modS, .slice A5 m.code.length c5, .slice A6 m.data.length c6] 50)
  have HB6 := Lib.hid (HB5.out.trans (hbn.mono HB5.out.size))
  have HM6 := Lib.hid (HM5.out.below hbn HM5.out.lt)
  have HR6 := Lib.hid ((HR5.out.below hbn).more hbn.size)
  have HO6 := Lib.hid ((HO5.out.below hbn).more hbn.size)
  have HS6 := Lib.hid ((HS5.out.below hbn).more hbn.size)
  have HP6 := Lib.hid ((HP5.out.below hbn).more hbn.size)
  have HN6 := Lib.hid hN
  clear hN hbn
  generalize w5.alloc (.cells #[.string modS, .slice A5 m.code.length c5, .slice A6 m.data.length c6] 50) = W6 at *
  obtain ⟨cap, hcv, hby, hb7⟩ := conv_by W6 E
  have HB67 := Lib.hid hb7
  have HBY := Lib.hid hby
  have hw6 : w5.heap.size < W6.heap.size := HN6.out.lt
  have HSP := Lib.hid (show s < W6.heap.size from HM6.out.lt)
  clear hby hb7
  go_upto_region 6 with fail
  clear hcv
  generalize Lib.bytesWorld W6 5 (ba E) = W7 at *
  have hk0 := HBY.out.cell k hk
  have hf0 := HBY.out.free k hk
  have hl0 := HBY.out.lt
  have hki : (k : Int) < (E.length : Int) := by omega
  have hE6 : ¬ ((E.length : Int) < 6) := by omega
  go_upto_region 9 with (go_at_call 22; refine (C1.out _).mono ?_; rintro e w' ⟨rfl, rfl⟩)
  obtain ⟨R', hR'⟩ : ∃ R', R' = setB E k y := ⟨_, rfl⟩
  have hRl : R'.length = E.length := by rw [hR']; exact List.length_set ..
  have hck : (((E[k].toNat : Int) + y) % 256) = (((u8 (((E.getD k 0).toNat : Int) + y).toNat)).toNat : Int) := by
    rw [u8_toNat, List.getD_eq_getElem?_getD, List.getElem?_eq_getElem hk]
    show _ = ((((E[k].toNat : Int) + y).toNat % 256 : Nat) : Int)
    omega
  have HC8 : Hid (∀ j (hj : j < R'.length), (W7.setCell ⟨W6.heap.size, k, none⟩ (.int .u8 (((E[k].toNat : Int) + y) % 256))).cell? ⟨W6.heap.size, j, none⟩ = some (.int .u8 (R'[j].toNat : Int))) := fun j hj => by
    have hj' : j < E.length := by omega
    subst hR'
    rw [setB_get hj hj']
    by_cases e : k = j
    · subst e
      rw [if_pos rfl, ← hck]
      exact World.cell?_setCell_same _ _ _ hk0
    · rw [if_neg e]
      exact (World.cell?_setCell_other _ _ _ _ (by intro h; injection h with _ h _; omega)).trans (HBY.out.cell j hj')
  have hb8 : Below W6.heap.size W6 (W7.setCell ⟨W6.heap.size, k, none⟩ (.int .u8 (((E[k].toNat : Int) + y) % 256))) := HB67.out.setCell (p := ⟨W6.heap.size, k, none⟩) (Nat.le_refl _) _
  have HSU : Hid (0 < y → (decR (ba R')).2 = 11) := fun h => by rw [hR']; exact HSM.out k hk h y2
  clear hck hk0 hf0 hl0
  generalize W7.setCell ⟨W6.heap.size, k, none⟩ (.int .u8 (((E[k].toNat : Int) + y) % 256)) = W8 at *
  have HB8 := Lib.hid (HB6.out.trans (hb8.mono HB6.out.size))
  have HM8 := Lib.hid (HM6.out.below hb8 HM6.out.lt)
  have HR8 := Lib.hid ((HR6.out.below hb8).more hb8.size)
  have HO8 := Lib.hid ((HO6.out.below hb8).more hb8.size)
  have HS8 := Lib.hid ((HS6.out.below hb8).more hb8.size)
  have HP8 := Lib.hid ((HP6.out.below hb8).more hb8.size)
  have HN8 := Lib.hid (HN6.out.below hb8 HN6.out.lt)
  have kc8 := conv_list (n := E.length) (cap := cap) hRl HC8.out
  have HD8 := Lib.hid (Decode_ba R' W8 (by rw [hRl]; have := hE.2; unfold maxLen; omega) (HT.out.below HB8.out))
  have HKC := Lib.hid kc8
  have HRL := Lib.hid hRl
  obtain ⟨⟨d1, d2, d3⟩, d4, hde⟩ : ∃ (a : Mod) (b : Int), (a, b) = decR (ba R') := ⟨_, _, rfl⟩
  rw [← hde] at HD8 HSU
  clear hb8 hR' hRl hde HC8 HB67 HBY HSM
  go_wp2_with fail
  refine HD8.out.mono ?_
  rintro e w9 ⟨VC, VD, rfl, hVC, hVD, hb9⟩
  obtain ⟨A7, c7, rfl⟩ := own_slice hVC
  obtain ⟨A8, c8, rfl⟩ := own_slice hVD
  simp only at hVC hVD
  have HB9 := Lib.hid (HB8.out.trans (hb9.mono HB8.out.size))
  have HM9 := Lib.hid (HM8.out.below hb9 HM8.out.lt)
  have HR9 := Lib.hid ((HR8.out.below hb9).more hb9.size)
  have HO9 := Lib.hid ((HO8.out.below hb9).more hb9.size)
  have HS9 := Lib.hid ((HS8.out.below hb9).more hb9.size)
  have HP9 := Lib.hid ((HP8.out.below hb9).more hb9.size)
  have HN9 := Lib.hid (HN8.out.below hb9 HN8.out.lt)
  clear hVC hVD hb9 HD8 kc8
  go_upto_region 10 with fail
  have hbn := (Below.refl w9.heap.size w9).alloc (Nat.le_refl _) (.cells #[.string d1, .slice A7 d2.length c7, .slice A8 d3.length c8] 50)
  have HBa := Lib.hid (HB9.out.trans (hbn.mono HB9.out.size))
  have HMa := Lib.hid (HM9.out.below hbn HM9.out.lt)
  have HRa := Lib.hid ((HR9.out.below hbn).more hbn.size)
  have HOa := Lib.hid ((HO9.out.below hbn).more hbn.size)
  have HSa := Lib.hid ((HS9.out.below hbn).more hbn.size)
  have HPa := Lib.hid ((HP9.out.below hbn).more hbn.size)
  have HNa := Lib.hid (HN9.out.below hbn HN9.out.lt)
  clear hbn
  generalize w9.alloc (.cells #[.string d1, .slice A7 d2.length c7, .slice A8 d3.length c8] 50) = Wa at *
  have h3s : (3 : Int) ≤ ((ba E).size : Int) := by rw [ba_size]; have := hE.1; omega
  have hx3 : (ba E).extract 0 3 = ba (E.take 3) := by
    apply ByteArray.ext
    rw [ByteArray.data_extract]
    apply Array.ext'
    simp [ba]
  have HDa := Lib.hid (Decode_ba (E.take 3) Wa (by rw [List.length_take]; have := hE.2; unfold maxLen; omega) (HT.out.below HBa.out))
  have HSH := Lib.hid (mb_short E)
  obtain ⟨⟨f1, f2, f3⟩, f4, hfe⟩ : ∃ (a : Mod) (b : Int), (a, b) = decR (ba (E.take 3)) := ⟨_, _, rfl⟩
  rw [← hfe] at HDa HSH
  have HX3 := Lib.hid hx3
  clear hfe hx3
  go_wp2_with fail
  try rw [HX3.out]
  refine HDa.out.mono ?_
  rintro e wb ⟨VC, VD, rfl, hVC, hVD, hbb⟩
  obtain ⟨A9, c9, rfl⟩ := own_slice hVC
  obtain ⟨A0, c0, rfl⟩ := own_slice hVD
  simp only at hVC hVD
  have hf4 : f4 = 5 := HSH.out
  have HBb := Lib.hid (HBa.out.trans (hbb.mono HBa.out.size))
  have HMb := Lib.hid (HMa.out.below hbb HMa.out.lt)
  have HRb := Lib.hid ((HRa.out.below hbb).more hbb.size)
  have HOb := Lib.hid ((HOa.out.below hbb).more hbb.size)
  have HSb := Lib.hid ((HSa.out.below hbb).more hbb.size)
  have HPb := Lib.hid ((HPa.out.below hbb).more hbb.size)
  have HNb := Lib.hid (HNa.out.below hbb HNa.out.lt)
  subst hf4
  clear hVC hVD hbb HDa HSH h3s
  go_upto_region 11 with fail
  have hbn := (Below.refl wb.heap.size wb).alloc (Nat.le_refl _) (.cells #[.string f1, .slice A9 f2.length c9, .slice A0 f3.length c0] 50)
  have HBc := Lib.hid (HBb.out.trans (hbn.mono HBb.out.size))
  have HMc := HMb.out.below hbn HMb.out.lt
  have HRc := Lib.hid ((HRb.out.below hbn).more hbn.size)
  have HOc := Lib.hid ((HOb.out.below hbn).more hbn.size)
  have HSc := Lib.hid ((HSb.out.below hbn).more hbn.size)
  have HPc := Lib.hid ((HPb.out.below hbn).more hbn.size)
  have HNc := HNb.out.below hbn HNb.out.lt
  clear hbn
  generalize wb.alloc (.cells #[.string f1, .slice A9 f2.length c9, .slice A0 f3.length c0] 50) = Wc at *
  have m0 : Wc.cell? ⟨s, 0, none⟩ = some (.string modS) := HMc.cell 0
  have m1 : Wc.cell? ⟨s, 1, none⟩ = some (.slice A2 m.code.length c2) := HMc.cell 1
  have m2 : Wc.cell? ⟨s, 2, none⟩ = some (.slice A3 m.data.length c3) := HMc.cell 2
  have ml := HMc.lt
  have x0 : Wc.cell? ⟨w5.heap.size, 0, none⟩ = some (.string modS) := HNc.cell 0
  have x1 : Wc.cell? ⟨w5.heap.size, 1, none⟩ = some (.slice A5 m.code.length c5) := HNc.cell 1
  have x2 : Wc.cell? ⟨w5.heap.size, 2, none⟩ = some (.slice A6 m.data.length c6) := HNc.cell 2
  have xl := HNc.lt
  have HEI := Lib.hid (Equal_ins A5 A2 c5 c2 m.code Wc HSc.out HRc.out (by have := HCL.out.1; unfold maxLen; omega))
  have HEJ : Hid (∀ n : Nat, Calls Tryd.prog 29 #[.slice A6 m.data.length c6, .slice A3 m.data.length c3] (Wc.drewN n) fun e w' => e = .returned (.bool true) ∧ ∃ n, w' = Wc.drewN n) := fun n => by
    refine (Equal_int A6 A3 c6 c3 m.data (Wc.drewN n) HPc.out HOc.out (by have := HCL.out.2.1; unfold maxLen; omega)).mono ?_
    rintro e w' ⟨rfl, n', rfl⟩
    exact ⟨rfl, _, World.drewN_drewN _ _ _⟩
  clear HMc HNc
  by_cases hy0 : y = 0
  · subst hy0
    go_wp2_with fail
    refine HEI.out.mono ?_
    rintro e wd ⟨rfl, n, rfl⟩
    go_wp2_with fail
    refine (HEJ.out n).mono ?_
    rintro e we ⟨rfl, n', rfl⟩
    go_wp2
    go_ret
    exact ⟨rfl, Below.drewN' HBc.out _⟩
  · have hy1 : (y == 0) = false := by rw [beq_eq_false_iff_ne]; exact hy0
    have hd4 : d4 = 11 := HSU.out (by omega)
    subst hd4
    go_wp2_with fail
    refine HEI.out.mono ?_
    rintro e wd ⟨rfl, n, rfl⟩
    go_wp2_with fail
    refine (HEJ.out n).mono ?_
    rintro e we ⟨rfl, n', rfl⟩
    go_wp2
    go_ret
    exact ⟨rfl, Below.drewN' HBc.out _⟩
end Go.Proofs.YtdjamdbamkhblabDoor
namespace Go.Proofs.YtdjamdbamkhblabDoor.modulesBack
open Go.RowKit Go.WideShapes Go.ChangeShapes Go.ChangeAt Go.Deep Go.Joins

theorem walk (A : Option Addr) (c : Nat) (l : List Ins) (ra : Ins) (at_ : Int) (y : Int) (w : World) (hr : RdI w w.heap.size A l) (hwf : ∀ i ∈ l, i.wf) (hl : l.length ≤ maxLen) (hra : ra.wf) (wn : (Lit.int .i64 at_).wf = true) (wy : (Lit.int .u8 y).wf = true) (ht : Tab w) :
    Calls Tryd.prog 12 #[.slice A l.length c, .agg #[.int .i64 ra.op, .int .i64 ra.a, .int .i64 ra.b, .int .i64 ra.c], .int .i64 at_, .int .u8 y] w fun e w' => e = .returned (.bool true) ∧ Below w.heap.size w w' := ModBack_any A c l ra at_ y w hr hwf hl hra wn wy ht

set_option maxRecDepth 100000 in
theorem contract (H : Type) (enc : TypeId × Value → H) (W : World) (base : Nat) (args : Array Value) (ds gs : List (DataW H)) (before : List MemPlace)
    (hval : ∀ (j : Nat) t v, Tryd.f12.params[j]? = some t → args[j]? = some v → Value.okWide Tryd.prog W .any base t v)
    (hW : DataW.Whole enc Tryd.prog Tryd.f12.params.toList Rows.modulesBackSpec.vars false W args.toList ds gs before) (hL : laidMetH Tryd.prog Rows.modulesBackRow.laid W)
    (_hsz : (DataW.weightsEach Tryd.prog (Tryd.f12.params.toList ++ (OpenSpec.ofChange Rows.modulesBackSpec).bare.plain.varTypes Tryd.prog) (ds ++ gs)).all (· ≤ reachBytes) = true) :
    Calls Tryd.prog 12 args W fun e W' => ∃ v, e = .returned v ∧ Rows.modulesBackSpec.post enc Tryd.prog Tryd.f12 false true false false W args v W' := by
  have hW' := hW
  obtain ⟨p, q, hA0, hV, rfl, hfz, hnd⟩ := hW
  have hA : DataW.TrodAll enc Tryd.prog W 0 (fun _ => true) true Tryd.f12.params.toList args.toList ds p := hA0
  rw [Tryd.params12] at hA hval
  obtain ⟨v0, vs0, d0, ds0, p0, q0, hargs, rfl, rfl, h0, z0⟩ := trodAll_cons hA
  obtain ⟨v1, vs1, d1, ds1, p1, q1, rfl, rfl, rfl, h1, z1⟩ := trodAll_cons z0
  obtain ⟨v2, vs2, d2, ds2, p2, q2, rfl, rfl, rfl, h2, z2⟩ := trodAll_cons z1
  obtain ⟨v3, vs3, d3, ds3, p3, q3, rfl, rfl, rfl, h3, z3⟩ := trodAll_cons z2
  obtain ⟨rfl, rfl, rfl⟩ := trodAll_nil z3
  obtain rfl : args = #[v0, v1, v2, v3] := by cases args; simp_all
  obtain ⟨A0, c0, l0, rfl, hlc0, hcm0, hnil0, hr0, hw0⟩ := open_code Tryd.underlying22 Tryd.underlying24 (by kernel_rfl) cells_Raw Tryd.underlying3 Tryd.underlying3 Tryd.underlying3 Tryd.underlying3 (hval 0 22 v0 rfl rfl) h0
  obtain ⟨r1, rfl, hw1⟩ := open_four Tryd.underlying24 (by kernel_rfl) cells_Raw Tryd.underlying3 Tryd.underlying3 Tryd.underlying3 Tryd.underlying3 (hval 1 24 v1 rfl rfl) h1
  obtain ⟨x2, rfl, rfl, rfl, wx2⟩ := open_int Tryd.underlying3 (hval 2 3 v2 rfl rfl) h2
  obtain ⟨x3, rfl, rfl, rfl, wx3⟩ := open_int Tryd.underlying5 (hval 3 5 v3 rfl rfl) h3
  refine (walk A0 c0 l0 r1 x2 x3 W hr0 hw0 (by omega) hw1 wx2 wx3 (tab_of_laid hL)).mono fun e W' ⟨he, hb⟩ => ?_
  subst he
  exact ⟨_, rfl, law_post hW' rfl rfl Tryd.underlying4 laidOut (by kernel_rfl) rfl hb⟩

theorem laid_met (os : Os) : laidMet Tryd.prog Rows.modulesBackRow.laid ((laidWorld os).forCall (fun _ _ => 0) ⟨#[], #[.slice none 0 0, .agg #[.int .i64 0, .int .i64 0, .int .i64 0, .int .i64 0], .int .i64 0, .int .u8 0], []⟩).memory :=
  laidMet_of_run' 8 (by kernel_rfl) (by kernel_rfl)
theorem reads (os : Os) {H : Type} (enc : TypeId × Value → H) : ∃ places, DataW.whole enc Tryd.prog ((laidWorld os).forCall (fun _ _ => 0) ⟨#[], #[.slice none 0 0, .agg #[.int .i64 0, .int .i64 0, .int .i64 0, .int .i64 0], .int .i64 0, .int .u8 0], []⟩).memory Tryd.f12.params.toList Rows.modulesBackSpec.vars false (#[.slice none 0 0, .agg #[.int .i64 0, .int .i64 0, .int .i64 0, .int .i64 0], .int .i64 0, .int .u8 0] : Array Value).toList 8 = some ([.nil, .agg [.lit (.int .i64 0), .lit (.int .i64 0), .lit (.int .i64 0), .lit (.int .i64 0)], .lit (.int .i64 0), .lit (.int .u8 0)], [], places) :=
  ⟨[], by kernel_rfl⟩

set_option maxRecDepth 100000 in
theorem lifted (os : Os) (started : os.Started) (H : Type) (enc : TypeId × Value → H) (F : Stop.Interp) :
    ReturnsInHanded {} Tryd.checked os 12 .any ((OpenSpec.ofChange Rows.modulesBackSpec).preRow enc Tryd.prog Tryd.f12 Rows.modulesBackRow.domain false Rows.modulesBackRow.laid) (((OpenSpec.ofChange Rows.modulesBackSpec).at F).post enc Tryd.prog Tryd.f12 false true false false) := by
  obtain ⟨places, hx⟩ := reads os enc
  refine returnsInHanded_of_row (C := Tryd.checked) (s := OpenSpec.ofChange Rows.modulesBackSpec) own started (by kernel_rfl) Tryd.func12
    (witness_row_at (enc := enc) (C := Tryd.checked) false (laidWorld os) #[.slice none 0 0, .agg #[.int .i64 0, .int .i64 0, .int .i64 0, .int .i64 0], .int .i64 0, .int .u8 0] rfl (by kernel_rfl) (by kernel_rfl) (by kernel_rfl)
      (OpenSpec.preRow_of_cond 8 hx (by kernel_rfl) (fun k hk => by cases hk) (by kernel_rfl) (laid_met os))) ?_
  intro W base args ds gs before hval hW _ _ hsz hL _ _
  exact contract H enc W base args ds gs before hval hW hL hsz

theorem said : Rows.ModulesBackSaid :=
  OpenClaim.holds_of_cond 12 Tryd.f12 rfl rfl rfl rfl rfl rfl rfl ⟨rfl, rfl, rfl, rfl, rfl⟩ rfl rfl rfl rfl rfl (by kernel_rfl) Tryd.func12 (by kernel_rfl)
    (of_decide_eq_true (by kernel_rfl)) (by unfold Func.isWrapper; first | (rw [if_pos (by decide +kernel)]; kernel_rfl) | (rw [if_neg (by decide +kernel)]; exact ⟨rfl, rfl⟩))
    (fun os started H enc _ F => by rw [OpenClaim.pre_eq_preRow]; exact lifted os started H enc F)

theorem plain (f : FuncId) (fn : Func) (hf : Tryd.pinned.checked.prog.funcNamed "curfew/curfewkeep.ModulesBack" = some f) (hfn : Tryd.pinned.checked.prog.funcs[f]? = some fn) :
    false = Tryd.pinned.checked.prog.looks [] ∧ ∀ (j : Nat) t, fn.params[j]? = some t → Tryd.pinned.checked.prog.wantsStandIn t = false := by
  obtain rfl : f = 12 := Option.some.inj ((show Tryd.prog.funcNamed "curfew/curfewkeep.ModulesBack" = some 12 by kernel_rfl).symm.trans hf) |>.symm
  obtain rfl : fn = Tryd.f12 := (Option.some.inj (Tryd.func12.symm.trans hfn)).symm
  refine ⟨by kernel_rfl, fun j t ht => ?_⟩
  rw [Tryd.params12] at ht
  have hall : (#[22, 24, 3, 5] : Array TypeId).all (fun t => Tryd.pinned.checked.prog.wantsStandIn t == false) = true := by kernel_rfl
  have := (Array.all_eq_true_iff_forall_mem.1 hall) t (Array.mem_of_getElem? ht)
  simpa using this

/-- The card. -/
theorem card : Rows.ModulesBackCardSaid :=
  Claim7.holds_tied_plain_at .later [] _ _ _ _ said (fun _ h => by cases h) (by kernel_rfl) (fun _ h => by cases h) modulesBack_row_tie rfl ⟨rfl, rfl⟩ (by kernel_rfl) rfl plain (by kernel_rfl)
end Go.Proofs.YtdjamdbamkhblabDoor.modulesBack
