/- The drawn regions of the kernel's ask and of the reference's answered: a module's code is run. No condition. By an AI agent (xask.py). The walk of safe.Enter: what it returns, for every region and word. The walk of the reference of safe.Enter: what it returns, for every region and word. -/
import Derived.Test.YtdjamdbamkhblacDoorG16
import Derived.Test.YtdjamdbamkhblacDoorG13
import Derived.Test.YtdjamdbamkhblacDoorG08
import Derived.Test.YtdjamdbamkhblacDoorG01
namespace Go.Proofs.YtdjamdbamkhblacDoor
open Go.RowKit
set_option linter.unusedVariables false
set_option linter.unusedSimpArgs false
structure AskJ (w0 : World) (bw g b0 c0 u nm breg : Nat) (n e : Int) (l : List Ins) (mem : List Int) (Ac Am : Option Addr) (cc cm : Nat) (r : Mc × Nat) (err : Int) (listed : Array Bool) (W : World) (y10 y11 y18 y19 y20 y21 y22 y23 y24 y25 y26 y27 y28 y29 y30 y31 y32 y33 y34 y35 y36 : Value) : Prop where
 f0 : listed.getD 0 true = true → y19 = .pointer (some ⟨bw, 0, none⟩)
 f1 : listed.getD 1 true = true → y20 = .pointer (some ⟨g, 0, none⟩)
 f2 : listed.getD 2 true = true → y21 = .pointer (some ⟨g, 0, none⟩)
 f3 : listed.getD 3 true = true → y22 = .pointer (some ⟨g, 0, none⟩)
 f4 : listed.getD 4 true = true → y23 = .slice (some ⟨b0, 0, none⟩) nm c0
 f5 : listed.getD 5 true = true → y24 = .int .i64 (u : Int)
 f6 : listed.getD 6 true = true → y25 = .pointer (some ⟨b0, u * 3, none⟩)
 f7 : listed.getD 7 true = true → y26 = .pointer (some ⟨b0, u * 3 + 1, none⟩)
 f8 : listed.getD 8 true = true → y27 = .slice Ac l.length cc
 f9 : listed.getD 9 true = true → y28 = .agg #[.int .i64 n, .int .i64 0, .int .i64 0, .int .i64 0, .int .i64 e, .int .i64 e, .int .i64 63, .int .i64 0]
 f10 : listed.getD 10 true = true → y29 = .pointer (some ⟨bw, 0, none⟩)
 f11 : listed.getD 11 true = true → y30 = .pointer (some ⟨g, 0, none⟩)
 f12 : listed.getD 12 true = true → y31 = .pointer (some ⟨g, 0, none⟩)
 f13 : listed.getD 13 true = true → y32 = .pointer (some ⟨g, 1, none⟩)
 f14 : listed.getD 14 true = true → y33 = .slice Am mem.length cm
 f15 : listed.getD 15 true = true → ∃ s : Value × Value, y34 = .tuple #[(outV r.2 r.1.regs s.1 s.2), .int .i64 err] ∧ RunOut w0 W r s.1 s.2
 f16 : listed.getD 16 true = true → ∃ s : Value × Value, y18 = .tuple #[(outV r.2 r.1.regs s.1 s.2), .int .i64 err] ∧ RunOut w0 W r s.1 s.2
 f17 : listed.getD 17 true = true → ∃ s : Value × Value, y35 = (outV r.2 r.1.regs s.1 s.2) ∧ RunOut w0 W r s.1 s.2
 f18 : listed.getD 18 true = true → y36 = .int .i64 err
 f19 : listed.getD 19 true = true → ∃ s : Nat, y10 = .pointer (some ⟨s, 0, none⟩) ∧ w0.heap.size ≤ s ∧ (listed.getD 20 true = false → Blk W s 208 #[.int .i64 0, .int .i64 0, .int .i64 0, .int .i64 0, .int .i64 0, .int .i64 0, .int .i64 0, .int .i64 0, .int .i64 0, .slice none 0 0, .slice none 0 0])
 f20 : listed.getD 20 true = true → ∃ (s : Nat) (T M : Value), y10 = .pointer (some ⟨s, 0, none⟩) ∧ w0.heap.size ≤ s ∧ Blk W s 208 (outC r.2 r.1.regs T M) ∧ RunOut w0 W r T M
 f21 : listed.getD 21 true = true → y11 = .int .i64 err
 q20_15 : listed.getD 20 true = true → listed.getD 15 true = true
 q20_19 : listed.getD 20 true = true → listed.getD 19 true = true
 w : Below w0.heap.size w0 W
noncomputable def askRegC : Code := ((Tryd.f140.body.bind (regAt 2)).getD .skip)
set_option maxRecDepth 1000000 in
set_option maxHeartbeats 8000000 in
theorem askReg (w0 : World) (bw g b0 c0 u nm breg : Nat) (n e : Int) (l : List Ins) (mem : List Int) (Ac Am : Option Addr) (cc cm : Nat) (r : Mc × Nat) (err : Int) {v0 v2 v4 v5 v6 v7 v9 v10 v11 v12 v13 v14 v15 v16 v17 v18 v19 v20 v21 v22 v23 v24 v25 v26 v27 v28 v29 v30 v31 v32 v33 v34 v35 v36 v37 v38 v39 v40 v41 v42 v43 v44 v45 v46 v47 v48 v49 v50 v51 v52 : Value} (wr : World) (Q : Exit → Act → World → Prop) (hbs : Below w0.heap.size w0 wr.drew) (hlw : bw < w0.heap.size) (hw0 : w0.cell? ⟨bw, 0, none⟩ = some (.pointer (some ⟨g, 0, none⟩))) (hlg : g < w0.heap.size) (hg0 : w0.cell? ⟨g, 0, none⟩ = some (.slice (some ⟨b0, 0, none⟩) nm c0)) (hg1 : w0.cell? ⟨g, 1, none⟩ = some (.slice Am mem.length cm)) (hlb : b0 < w0.heap.size) (hm1 : w0.cell? ⟨b0, u * 3 + 1, none⟩ = some (.slice Ac l.length cc)) (hu : u < nm) (hreg : ∀ W : World, Below w0.heap.size w0 W → W.cell? ⟨breg, 0, none⟩ = some (.int .i64 n) ∧ W.cell? ⟨breg, 1, none⟩ = some (.int .i64 0) ∧ W.cell? ⟨breg, 2, none⟩ = some (.int .i64 0) ∧ W.cell? ⟨breg, 3, none⟩ = some (.int .i64 0) ∧ W.cell? ⟨breg, 4, none⟩ = some (.int .i64 e) ∧ W.cell? ⟨breg, 5, none⟩ = some (.int .i64 e) ∧ W.cell? ⟨breg, 6, none⟩ = some (.int .i64 63) ∧ W.cell? ⟨breg, 7, none⟩ = some (.int .i64 0)) (hcall : ∀ W : World, Below w0.heap.size w0 W → Calls Tryd.prog 156 #[.slice Ac l.length cc, .agg #[.int .i64 n, .int .i64 0, .int .i64 0, .int .i64 0, .int .i64 e, .int .i64 e, .int .i64 63, .int .i64 0], .slice Am mem.length cm, .int .i64 2000] W (RunPost W r err))
  (hQ : ∀ (listed : Array Bool) (W : World) (y10 y11 y18 y19 y20 y21 y22 y23 y24 y25 y26 y27 y28 y29 y30 y31 y32 y33 y34 y35 y36 : Value), (∀ i, i < 22 → listed.getD i true = true) → AskJ w0 bw g b0 c0 u nm breg n e l mem Ac Am cc cm r err listed W y10 y11 y18 y19 y20 y21 y22 y23 y24 y25 y26 y27 y28 y29 y30 y31 y32 y33 y34 y35 y36 → Q .normal ⟨#[v0, .int .i64 (u : Int), v2, .pointer (some ⟨bw, 0, none⟩), v4, v5, v6, v7, .pointer (some ⟨breg, 0, none⟩), v9, y10, y11, v12, v13, v14, v15, v16, v17, y18, y19, y20, y21, y22, y23, y24, y25, y26, y27, y28, y29, y30, y31, y32, y33, y34, y35, y36, v37, v38, v39, v40, v41, v42, v43, v44, v45, v46, v47, v48, v49, v50, v51, v52], []⟩ W) :
  Code.wp Tryd.prog askRegC Q ⟨#[v0, .int .i64 (u : Int), v2, .pointer (some ⟨bw, 0, none⟩), v4, v5, v6, v7, .pointer (some ⟨breg, 0, none⟩), v9, v10, v11, v12, v13, v14, v15, v16, v17, v18, v19, v20, v21, v22, v23, v24, v25, v26, v27, v28, v29, v30, v31, v32, v33, v34, v35, v36, v37, v38, v39, v40, v41, v42, v43, v44, v45, v46, v47, v48, v49, v50, v51, v52], []⟩ wr := by
 have HQ := Lib.hid hQ
 clear hQ
 conv => arg 2; whnf
 refine wp_region_invB (fun listed a W => ∃ y10 y11 y18 y19 y20 y21 y22 y23 y24 y25 y26 y27 y28 y29 y30 y31 y32 y33 y34 y35 y36, AskJ w0 bw g b0 c0 u nm breg n e l mem Ac Am cc cm r err listed W y10 y11 y18 y19 y20 y21 y22 y23 y24 y25 y26 y27 y28 y29 y30 y31 y32 y33 y34 y35 y36 ∧ a = ⟨#[v0, .int .i64 (u : Int), v2, .pointer (some ⟨bw, 0, none⟩), v4, v5, v6, v7, .pointer (some ⟨breg, 0, none⟩), v9, y10, y11, v12, v13, v14, v15, v16, v17, y18, y19, y20, y21, y22, y23, y24, y25, y26, y27, y28, y29, y30, y31, y32, y33, y34, y35, y36, v37, v38, v39, v40, v41, v42, v43, v44, v45, v46, v47, v48, v49, v50, v51, v52], []⟩) (by kernel_rfl) (ord_ofB (by kernel_rfl)) ?start ?step ?fin
 case start => exact ⟨_, _, _, _, _, _, _, _, _, _, _, _, _, _, _, _, _, _, _, _, _, ⟨fun h => absurd h (by decide), fun h => absurd h (by decide), fun h => absurd h (by decide), fun h => absurd h (by decide), fun h => absurd h (by decide), fun h => absurd h (by decide), fun h => absurd h (by decide), fun h => absurd h (by decide), fun h => absurd h (by decide), fun h => absurd h (by decide), fun h => absurd h (by decide), fun h => absurd h (by decide), fun h => absurd h (by decide), fun h => absurd h (by decide), fun h => absurd h (by decide), fun h => absurd h (by decide), fun h => absurd h (by decide), fun h => absurd h (by decide), fun h => absurd h (by decide), fun h => absurd h (by decide), fun h => absurd h (by decide), fun h => absurd h (by decide), fun h => absurd h (by decide), fun h => absurd h (by decide), hbs⟩, rfl⟩
 case step =>
  intro i o ho listed a W hl haf hI K hK
  obtain ⟨y10, y11, y18, y19, y20, y21, y22, y23, y24, y25, y26, y27, y28, y29, y30, y31, y32, y33, y34, y35, y36, hJ, rfl⟩ := hI
  have hi : i < 22 := (Array.getElem?_eq_some_iff.1 ho).1
  have h16 : i = 0 ∨ i = 1 ∨ i = 2 ∨ i = 3 ∨ i = 4 ∨ i = 5 ∨ i = 6 ∨ i = 7 ∨ i = 8 ∨ i = 9 ∨ i = 10 ∨ i = 11 ∨ i = 12 ∨ i = 13 ∨ i = 14 ∨ i = 15 ∨ i = 16 ∨ i = 17 ∨ i = 18 ∨ i = 19 ∨ i = 20 ∨ i = 21 := by omega
  rcases h16 with rfl | rfl | rfl | rfl | rfl | rfl | rfl | rfl | rfl | rfl | rfl | rfl | rfl | rfl | rfl | rfl | rfl | rfl | rfl | rfl | rfl | rfl
  ·have ho' := Option.some.inj ho
   subst ho'
   have HJ := Lib.hid hJ
   clear hJ haf
   try unfold pt
   go_simp
   have hJ := HJ.out
   exact hK _ _ ⟨_, _, _, _, _, _, _, _, _, _, _, _, _, _, _, _, _, _, _, _, _, ⟨fun _ => rfl, fun x => hJ.f1 (upneR (by decide) x), fun x => hJ.f2 (upneR (by decide) x), fun x => hJ.f3 (upneR (by decide) x), fun x => hJ.f4 (upneR (by decide) x), fun x => hJ.f5 (upneR (by decide) x), fun x => hJ.f6 (upneR (by decide) x), fun x => hJ.f7 (upneR (by decide) x), fun x => hJ.f8 (upneR (by decide) x), fun x => hJ.f9 (upneR (by decide) x), fun x => hJ.f10 (upneR (by decide) x), fun x => hJ.f11 (upneR (by decide) x), fun x => hJ.f12 (upneR (by decide) x), fun x => hJ.f13 (upneR (by decide) x), fun x => hJ.f14 (upneR (by decide) x), fun x => hJ.f15 (upneR (by decide) x), fun x => hJ.f16 (upneR (by decide) x), fun x => hJ.f17 (upneR (by decide) x), fun x => hJ.f18 (upneR (by decide) x), fun x => by obtain ⟨s, e1, e2⟩ := hJ.f19 (upneR (by decide) x); exact ⟨s, e1, ⟨e2.1, fun e => e2.2 (by rw [upeqR (by decide)] at e; exact e)⟩⟩, fun x => hJ.f20 (upneR (by decide) x), fun x => hJ.f21 (upneR (by decide) x), fun x => by rw [upeqR (by decide)]; exact hJ.q20_15 (upneR (by decide) x), fun x => by rw [upeqR (by decide)]; exact hJ.q20_19 (upneR (by decide) x), hJ.w⟩, rfl⟩
  ·have ho' := Option.some.inj ho
   subst ho'
   simp [Region.binds] at haf
   have p0 : listed.getD 0 true = true := waitsR (by simp [haf])
   obtain rfl := hJ.f0 p0
   have e1 := (hJ.w.cell (p := ⟨bw, 0, none⟩) hlw).trans hw0
   have HJ := Lib.hid hJ
   clear hJ haf
   try unfold pt
   go_simp
   have hJ := HJ.out
   exact hK _ _ ⟨_, _, _, _, _, _, _, _, _, _, _, _, _, _, _, _, _, _, _, _, _, ⟨fun x => hJ.f0 (upneR (by decide) x), fun _ => rfl, fun x => hJ.f2 (upneR (by decide) x), fun x => hJ.f3 (upneR (by decide) x), fun x => hJ.f4 (upneR (by decide) x), fun x => hJ.f5 (upneR (by decide) x), fun x => hJ.f6 (upneR (by decide) x), fun x => hJ.f7 (upneR (by decide) x), fun x => hJ.f8 (upneR (by decide) x), fun x => hJ.f9 (upneR (by decide) x), fun x => hJ.f10 (upneR (by decide) x), fun x => hJ.f11 (upneR (by decide) x), fun x => hJ.f12 (upneR (by decide) x), fun x => hJ.f13 (upneR (by decide) x), fun x => hJ.f14 (upneR (by decide) x), fun x => hJ.f15 (upneR (by decide) x), fun x => hJ.f16 (upneR (by decide) x), fun x => hJ.f17 (upneR (by decide) x), fun x => hJ.f18 (upneR (by decide) x), fun x => by obtain ⟨s, e1, e2⟩ := hJ.f19 (upneR (by decide) x); exact ⟨s, e1, ⟨e2.1, fun e => e2.2 (by rw [upeqR (by decide)] at e; exact e)⟩⟩, fun x => hJ.f20 (upneR (by decide) x), fun x => hJ.f21 (upneR (by decide) x), fun x => by rw [upeqR (by decide)]; exact hJ.q20_15 (upneR (by decide) x), fun x => by rw [upeqR (by decide)]; exact hJ.q20_19 (upneR (by decide) x), hJ.w⟩, rfl⟩
  ·have ho' := Option.some.inj ho
   subst ho'
   simp [Region.binds] at haf
   have p1 : listed.getD 1 true = true := waitsR (by simp [haf])
   obtain rfl := hJ.f1 p1
   have HJ := Lib.hid hJ
   clear hJ haf
   try unfold pt
   go_simp
   have hJ := HJ.out
   exact hK _ _ ⟨_, _, _, _, _, _, _, _, _, _, _, _, _, _, _, _, _, _, _, _, _, ⟨fun x => hJ.f0 (upneR (by decide) x), fun x => hJ.f1 (upneR (by decide) x), fun _ => rfl, fun x => hJ.f3 (upneR (by decide) x), fun x => hJ.f4 (upneR (by decide) x), fun x => hJ.f5 (upneR (by decide) x), fun x => hJ.f6 (upneR (by decide) x), fun x => hJ.f7 (upneR (by decide) x), fun x => hJ.f8 (upneR (by decide) x), fun x => hJ.f9 (upneR (by decide) x), fun x => hJ.f10 (upneR (by decide) x), fun x => hJ.f11 (upneR (by decide) x), fun x => hJ.f12 (upneR (by decide) x), fun x => hJ.f13 (upneR (by decide) x), fun x => hJ.f14 (upneR (by decide) x), fun x => hJ.f15 (upneR (by decide) x), fun x => hJ.f16 (upneR (by decide) x), fun x => hJ.f17 (upneR (by decide) x), fun x => hJ.f18 (upneR (by decide) x), fun x => by obtain ⟨s, e1, e2⟩ := hJ.f19 (upneR (by decide) x); exact ⟨s, e1, ⟨e2.1, fun e => e2.2 (by rw [upeqR (by decide)] at e; exact e)⟩⟩, fun x => hJ.f20 (upneR (by decide) x), fun x => hJ.f21 (upneR (by decide) x), fun x => by rw [upeqR (by decide)]; exact hJ.q20_15 (upneR (by decide) x), fun x => by rw [upeqR (by decide)]; exact hJ.q20_19 (upneR (by decide) x), hJ.w⟩, rfl⟩
  ·have ho' := Option.some.inj ho
   subst ho'
   simp [Region.binds] at haf
   have p2 : listed.getD 2 true = true := waitsR (by simp [haf])
   obtain rfl := hJ.f2 p2
   have HJ := Lib.hid hJ
   clear hJ haf
   try unfold pt
   go_simp
   have hJ := HJ.out
   exact hK _ _ ⟨_, _, _, _, _, _, _, _, _, _, _, _, _, _, _, _, _, _, _, _, _, ⟨fun x => hJ.f0 (upneR (by decide) x), fun x => hJ.f1 (upneR (by decide) x), fun x => hJ.f2 (upneR (by decide) x), fun _ => rfl, fun x => hJ.f4 (upneR (by decide) x), fun x => hJ.f5 (upneR (by decide) x), fun x => hJ.f6 (upneR (by decide) x), fun x => hJ.f7 (upneR (by decide) x), fun x => hJ.f8 (upneR (by decide) x), fun x => hJ.f9 (upneR (by decide) x), fun x => hJ.f10 (upneR (by decide) x), fun x => hJ.f11 (upneR (by decide) x), fun x => hJ.f12 (upneR (by decide) x), fun x => hJ.f13 (upneR (by decide) x), fun x => hJ.f14 (upneR (by decide) x), fun x => hJ.f15 (upneR (by decide) x), fun x => hJ.f16 (upneR (by decide) x), fun x => hJ.f17 (upneR (by decide) x), fun x => hJ.f18 (upneR (by decide) x), fun x => by obtain ⟨s, e1, e2⟩ := hJ.f19 (upneR (by decide) x); exact ⟨s, e1, ⟨e2.1, fun e => e2.2 (by rw [upeqR (by decide)] at e; exact e)⟩⟩, fun x => hJ.f20 (upneR (by decide) x), fun x => hJ.f21 (upneR (by decide) x), fun x => by rw [upeqR (by decide)]; exact hJ.q20_15 (upneR (by decide) x), fun x => by rw [upeqR (by decide)]; exact hJ.q20_19 (upneR (by decide) x), hJ.w⟩, rfl⟩
  ·have ho' := Option.some.inj ho
   subst ho'
   simp [Region.binds] at haf
   have p3 : listed.getD 3 true = true := waitsR (by simp [haf])
   obtain rfl := hJ.f3 p3
   have e1 := (hJ.w.cell (p := ⟨g, 0, none⟩) hlg).trans hg0
   have HJ := Lib.hid hJ
   clear hJ haf
   try unfold pt
   go_simp
   have hJ := HJ.out
   exact hK _ _ ⟨_, _, _, _, _, _, _, _, _, _, _, _, _, _, _, _, _, _, _, _, _, ⟨fun x => hJ.f0 (upneR (by decide) x), fun x => hJ.f1 (upneR (by decide) x), fun x => hJ.f2 (upneR (by decide) x), fun x => hJ.f3 (upneR (by decide) x), fun _ => rfl, fun x => hJ.f5 (upneR (by decide) x), fun x => hJ.f6 (upneR (by decide) x), fun x => hJ.f7 (upneR (by decide) x), fun x => hJ.f8 (upneR (by decide) x), fun x => hJ.f9 (upneR (by decide) x), fun x => hJ.f10 (upneR (by decide) x), fun x => hJ.f11 (upneR (by decide) x), fun x => hJ.f12 (upneR (by decide) x), fun x => hJ.f13 (upneR (by decide) x), fun x => hJ.f14 (upneR (by decide) x), fun x => hJ.f15 (upneR (by decide) x), fun x => hJ.f16 (upneR (by decide) x), fun x => hJ.f17 (upneR (by decide) x), fun x => hJ.f18 (upneR (by decide) x), fun x => by obtain ⟨s, e1, e2⟩ := hJ.f19 (upneR (by decide) x); exact ⟨s, e1, ⟨e2.1, fun e => e2.2 (by rw [upeqR (by decide)] at e; exact e)⟩⟩, fun x => hJ.f20 (upneR (by decide) x), fun x => hJ.f21 (upneR (by decide) x), fun x => by rw [upeqR (by decide)]; exact hJ.q20_15 (upneR (by decide) x), fun x => by rw [upeqR (by decide)]; exact hJ.q20_19 (upneR (by decide) x), hJ.w⟩, rfl⟩
  ·have ho' := Option.some.inj ho
   subst ho'
   have HJ := Lib.hid hJ
   clear hJ haf
   try unfold pt
   go_simp
   have hJ := HJ.out
   exact hK _ _ ⟨_, _, _, _, _, _, _, _, _, _, _, _, _, _, _, _, _, _, _, _, _, ⟨fun x => hJ.f0 (upneR (by decide) x), fun x => hJ.f1 (upneR (by decide) x), fun x => hJ.f2 (upneR (by decide) x), fun x => hJ.f3 (upneR (by decide) x), fun x => hJ.f4 (upneR (by decide) x), fun _ => rfl, fun x => hJ.f6 (upneR (by decide) x), fun x => hJ.f7 (upneR (by decide) x), fun x => hJ.f8 (upneR (by decide) x), fun x => hJ.f9 (upneR (by decide) x), fun x => hJ.f10 (upneR (by decide) x), fun x => hJ.f11 (upneR (by decide) x), fun x => hJ.f12 (upneR (by decide) x), fun x => hJ.f13 (upneR (by decide) x), fun x => hJ.f14 (upneR (by decide) x), fun x => hJ.f15 (upneR (by decide) x), fun x => hJ.f16 (upneR (by decide) x), fun x => hJ.f17 (upneR (by decide) x), fun x => hJ.f18 (upneR (by decide) x), fun x => by obtain ⟨s, e1, e2⟩ := hJ.f19 (upneR (by decide) x); exact ⟨s, e1, ⟨e2.1, fun e => e2.2 (by rw [upeqR (by decide)] at e; exact e)⟩⟩, fun x => hJ.f20 (upneR (by decide) x), fun x => hJ.f21 (upneR (by decide) x), fun x => by rw [upeqR (by decide)]; exact hJ.q20_15 (upneR (by decide) x), fun x => by rw [upeqR (by decide)]; exact hJ.q20_19 (upneR (by decide) x), hJ.w⟩, rfl⟩
  ·have ho' := Option.some.inj ho
   subst ho'
   simp [Region.binds] at haf
   have p4 : listed.getD 4 true = true := waitsR (by simp [haf])
   have p5 : listed.getD 5 true = true := waitsR (by simp [haf])
   obtain rfl := hJ.f4 p4
   obtain rfl := hJ.f5 p5
   have hu1 : (u : Int) < (nm : Int) := by omega
   have HJ := Lib.hid hJ
   clear hJ haf
   try unfold pt
   go_simp
   have hJ := HJ.out
   exact hK _ _ ⟨_, _, _, _, _, _, _, _, _, _, _, _, _, _, _, _, _, _, _, _, _, ⟨fun x => hJ.f0 (upneR (by decide) x), fun x => hJ.f1 (upneR (by decide) x), fun x => hJ.f2 (upneR (by decide) x), fun x => hJ.f3 (upneR (by decide) x), fun x => hJ.f4 (upneR (by decide) x), fun x => hJ.f5 (upneR (by decide) x), fun _ => rfl, fun x => hJ.f7 (upneR (by decide) x), fun x => hJ.f8 (upneR (by decide) x), fun x => hJ.f9 (upneR (by decide) x), fun x => hJ.f10 (upneR (by decide) x), fun x => hJ.f11 (upneR (by decide) x), fun x => hJ.f12 (upneR (by decide) x), fun x => hJ.f13 (upneR (by decide) x), fun x => hJ.f14 (upneR (by decide) x), fun x => hJ.f15 (upneR (by decide) x), fun x => hJ.f16 (upneR (by decide) x), fun x => hJ.f17 (upneR (by decide) x), fun x => hJ.f18 (upneR (by decide) x), fun x => by obtain ⟨s, e1, e2⟩ := hJ.f19 (upneR (by decide) x); exact ⟨s, e1, ⟨e2.1, fun e => e2.2 (by rw [upeqR (by decide)] at e; exact e)⟩⟩, fun x => hJ.f20 (upneR (by decide) x), fun x => hJ.f21 (upneR (by decide) x), fun x => by rw [upeqR (by decide)]; exact hJ.q20_15 (upneR (by decide) x), fun x => by rw [upeqR (by decide)]; exact hJ.q20_19 (upneR (by decide) x), hJ.w⟩, rfl⟩
  ·have ho' := Option.some.inj ho
   subst ho'
   simp [Region.binds] at haf
   have p6 : listed.getD 6 true = true := waitsR (by simp [haf])
   obtain rfl := hJ.f6 p6
   have HJ := Lib.hid hJ
   clear hJ haf
   try unfold pt
   go_simp
   have hJ := HJ.out
   exact hK _ _ ⟨_, _, _, _, _, _, _, _, _, _, _, _, _, _, _, _, _, _, _, _, _, ⟨fun x => hJ.f0 (upneR (by decide) x), fun x => hJ.f1 (upneR (by decide) x), fun x => hJ.f2 (upneR (by decide) x), fun x => hJ.f3 (upneR (by decide) x), fun x => hJ.f4 (upneR (by decide) x), fun x => hJ.f5 (upneR (by decide) x), fun x => hJ.f6 (upneR (by decide) x), fun _ => rfl, fun x => hJ.f8 (upneR (by decide) x), fun x => hJ.f9 (upneR (by decide) x), fun x => hJ.f10 (upneR (by decide) x), fun x => hJ.f11 (upneR (by decide) x), fun x => hJ.f12 (upneR (by decide) x), fun x => hJ.f13 (upneR (by decide) x), fun x => hJ.f14 (upneR (by decide) x), fun x => hJ.f15 (upneR (by decide) x), fun x => hJ.f16 (upneR (by decide) x), fun x => hJ.f17 (upneR (by decide) x), fun x => hJ.f18 (upneR (by decide) x), fun x => by obtain ⟨s, e1, e2⟩ := hJ.f19 (upneR (by decide) x); exact ⟨s, e1, ⟨e2.1, fun e => e2.2 (by rw [upeqR (by decide)] at e; exact e)⟩⟩, fun x => hJ.f20 (upneR (by decide) x), fun x => hJ.f21 (upneR (by decide) x), fun x => by rw [upeqR (by decide)]; exact hJ.q20_15 (upneR (by decide) x), fun x => by rw [upeqR (by decide)]; exact hJ.q20_19 (upneR (by decide) x), hJ.w⟩, rfl⟩
  ·have ho' := Option.some.inj ho
   subst ho'
   simp [Region.binds] at haf
   have p7 : listed.getD 7 true = true := waitsR (by simp [haf])
   obtain rfl := hJ.f7 p7
   have e1 := (hJ.w.cell (p := ⟨b0, u * 3 + 1, none⟩) hlb).trans hm1
   have HJ := Lib.hid hJ
   clear hJ haf
   try unfold pt
   go_simp
   have hJ := HJ.out
   exact hK _ _ ⟨_, _, _, _, _, _, _, _, _, _, _, _, _, _, _, _, _, _, _, _, _, ⟨fun x => hJ.f0 (upneR (by decide) x), fun x => hJ.f1 (upneR (by decide) x), fun x => hJ.f2 (upneR (by decide) x), fun x => hJ.f3 (upneR (by decide) x), fun x => hJ.f4 (upneR (by decide) x), fun x => hJ.f5 (upneR (by decide) x), fun x => hJ.f6 (upneR (by decide) x), fun x => hJ.f7 (upneR (by decide) x), fun _ => rfl, fun x => hJ.f9 (upneR (by decide) x), fun x => hJ.f10 (upneR (by decide) x), fun x => hJ.f11 (upneR (by decide) x), fun x => hJ.f12 (upneR (by decide) x), fun x => hJ.f13 (upneR (by decide) x), fun x => hJ.f14 (upneR (by decide) x), fun x => hJ.f15 (upneR (by decide) x), fun x => hJ.f16 (upneR (by decide) x), fun x => hJ.f17 (upneR (by decide) x), fun x => hJ.f18 (upneR (by decide) x), fun x => by obtain ⟨s, e1, e2⟩ := hJ.f19 (upneR (by decide) x); exact ⟨s, e1, ⟨e2.1, fun e => e2.2 (by rw [upeqR (by decide)] at e; exact e)⟩⟩, fun x => hJ.f20 (upneR (by decide) x), fun x => hJ.f21 (upneR (by decide) x), fun x => by rw [upeqR (by decide)]; exact hJ.q20_15 (upneR (by decide) x), fun x => by rw [upeqR (by decide)]; exact hJ.q20_19 (upneR (by decide) x), hJ.w⟩, rfl⟩
  ·have ho' := Option.some.inj ho
   subst ho'
   obtain ⟨q0, q1, q2, q3, q4, q5, q6, q7⟩ := hreg W hJ.w
   have HJ := Lib.hid hJ
   clear hJ haf
   try unfold pt
   go_simp
   have hJ := HJ.out
   exact hK _ _ ⟨_, _, _, _, _, _, _, _, _, _, _, _, _, _, _, _, _, _, _, _, _, ⟨fun x => hJ.f0 (upneR (by decide) x), fun x => hJ.f1 (upneR (by decide) x), fun x => hJ.f2 (upneR (by decide) x), fun x => hJ.f3 (upneR (by decide) x), fun x => hJ.f4 (upneR (by decide) x), fun x => hJ.f5 (upneR (by decide) x), fun x => hJ.f6 (upneR (by decide) x), fun x => hJ.f7 (upneR (by decide) x), fun x => hJ.f8 (upneR (by decide) x), fun _ => rfl, fun x => hJ.f10 (upneR (by decide) x), fun x => hJ.f11 (upneR (by decide) x), fun x => hJ.f12 (upneR (by decide) x), fun x => hJ.f13 (upneR (by decide) x), fun x => hJ.f14 (upneR (by decide) x), fun x => hJ.f15 (upneR (by decide) x), fun x => hJ.f16 (upneR (by decide) x), fun x => hJ.f17 (upneR (by decide) x), fun x => hJ.f18 (upneR (by decide) x), fun x => by obtain ⟨s, e1, e2⟩ := hJ.f19 (upneR (by decide) x); exact ⟨s, e1, ⟨e2.1, fun e => e2.2 (by rw [upeqR (by decide)] at e; exact e)⟩⟩, fun x => hJ.f20 (upneR (by decide) x), fun x => hJ.f21 (upneR (by decide) x), fun x => by rw [upeqR (by decide)]; exact hJ.q20_15 (upneR (by decide) x), fun x => by rw [upeqR (by decide)]; exact hJ.q20_19 (upneR (by decide) x), hJ.w⟩, rfl⟩
  ·have ho' := Option.some.inj ho
   subst ho'
   have HJ := Lib.hid hJ
   clear hJ haf
   try unfold pt
   go_simp
   have hJ := HJ.out
   exact hK _ _ ⟨_, _, _, _, _, _, _, _, _, _, _, _, _, _, _, _, _, _, _, _, _, ⟨fun x => hJ.f0 (upneR (by decide) x), fun x => hJ.f1 (upneR (by decide) x), fun x => hJ.f2 (upneR (by decide) x), fun x => hJ.f3 (upneR (by decide) x), fun x => hJ.f4 (upneR (by decide) x), fun x => hJ.f5 (upneR (by decide) x), fun x => hJ.f6 (upneR (by decide) x), fun x => hJ.f7 (upneR (by decide) x), fun x => hJ.f8 (upneR (by decide) x), fun x => hJ.f9 (upneR (by decide) x), fun _ => rfl, fun x => hJ.f11 (upneR (by decide) x), fun x => hJ.f12 (upneR (by decide) x), fun x => hJ.f13 (upneR (by decide) x), fun x => hJ.f14 (upneR (by decide) x), fun x => hJ.f15 (upneR (by decide) x), fun x => hJ.f16 (upneR (by decide) x), fun x => hJ.f17 (upneR (by decide) x), fun x => hJ.f18 (upneR (by decide) x), fun x => by obtain ⟨s, e1, e2⟩ := hJ.f19 (upneR (by decide) x); exact ⟨s, e1, ⟨e2.1, fun e => e2.2 (by rw [upeqR (by decide)] at e; exact e)⟩⟩, fun x => hJ.f20 (upneR (by decide) x), fun x => hJ.f21 (upneR (by decide) x), fun x => by rw [upeqR (by decide)]; exact hJ.q20_15 (upneR (by decide) x), fun x => by rw [upeqR (by decide)]; exact hJ.q20_19 (upneR (by decide) x), hJ.w⟩, rfl⟩
  ·have ho' := Option.some.inj ho
   subst ho'
   simp [Region.binds] at haf
   have p10 : listed.getD 10 true = true := waitsR (by simp [haf])
   obtain rfl := hJ.f10 p10
   have e1 := (hJ.w.cell (p := ⟨bw, 0, none⟩) hlw).trans hw0
   have HJ := Lib.hid hJ
   clear hJ haf
   try unfold pt
   go_simp
   have hJ := HJ.out
   exact hK _ _ ⟨_, _, _, _, _, _, _, _, _, _, _, _, _, _, _, _, _, _, _, _, _, ⟨fun x => hJ.f0 (upneR (by decide) x), fun x => hJ.f1 (upneR (by decide) x), fun x => hJ.f2 (upneR (by decide) x), fun x => hJ.f3 (upneR (by decide) x), fun x => hJ.f4 (upneR (by decide) x), fun x => hJ.f5 (upneR (by decide) x), fun x => hJ.f6 (upneR (by decide) x), fun x => hJ.f7 (upneR (by decide) x), fun x => hJ.f8 (upneR (by decide) x), fun x => hJ.f9 (upneR (by decide) x), fun x => hJ.f10 (upneR (by decide) x), fun _ => rfl, fun x => hJ.f12 (upneR (by decide) x), fun x => hJ.f13 (upneR (by decide) x), fun x => hJ.f14 (upneR (by decide) x), fun x => hJ.f15 (upneR (by decide) x), fun x => hJ.f16 (upneR (by decide) x), fun x => hJ.f17 (upneR (by decide) x), fun x => hJ.f18 (upneR (by decide) x), fun x => by obtain ⟨s, e1, e2⟩ := hJ.f19 (upneR (by decide) x); exact ⟨s, e1, ⟨e2.1, fun e => e2.2 (by rw [upeqR (by decide)] at e; exact e)⟩⟩, fun x => hJ.f20 (upneR (by decide) x), fun x => hJ.f21 (upneR (by decide) x), fun x => by rw [upeqR (by decide)]; exact hJ.q20_15 (upneR (by decide) x), fun x => by rw [upeqR (by decide)]; exact hJ.q20_19 (upneR (by decide) x), hJ.w⟩, rfl⟩
  ·have ho' := Option.some.inj ho
   subst ho'
   simp [Region.binds] at haf
   have p11 : listed.getD 11 true = true := waitsR (by simp [haf])
   obtain rfl := hJ.f11 p11
   have HJ := Lib.hid hJ
   clear hJ haf
   try unfold pt
   go_simp
   have hJ := HJ.out
   exact hK _ _ ⟨_, _, _, _, _, _, _, _, _, _, _, _, _, _, _, _, _, _, _, _, _, ⟨fun x => hJ.f0 (upneR (by decide) x), fun x => hJ.f1 (upneR (by decide) x), fun x => hJ.f2 (upneR (by decide) x), fun x => hJ.f3 (upneR (by decide) x), fun x => hJ.f4 (upneR (by decide) x), fun x => hJ.f5 (upneR (by decide) x), fun x => hJ.f6 (upneR (by decide) x), fun x => hJ.f7 (upneR (by decide) x), fun x => hJ.f8 (upneR (by decide) x), fun x => hJ.f9 (upneR (by decide) x), fun x => hJ.f10 (upneR (by decide) x), fun x => hJ.f11 (upneR (by decide) x), fun _ => rfl, fun x => hJ.f13 (upneR (by decide) x), fun x => hJ.f14 (upneR (by decide) x), fun x => hJ.f15 (upneR (by decide) x), fun x => hJ.f16 (upneR (by decide) x), fun x => hJ.f17 (upneR (by decide) x), fun x => hJ.f18 (upneR (by decide) x), fun x => by obtain ⟨s, e1, e2⟩ := hJ.f19 (upneR (by decide) x); exact ⟨s, e1, ⟨e2.1, fun e => e2.2 (by rw [upeqR (by decide)] at e; exact e)⟩⟩, fun x => hJ.f20 (upneR (by decide) x), fun x => hJ.f21 (upneR (by decide) x), fun x => by rw [upeqR (by decide)]; exact hJ.q20_15 (upneR (by decide) x), fun x => by rw [upeqR (by decide)]; exact hJ.q20_19 (upneR (by decide) x), hJ.w⟩, rfl⟩
  ·have ho' := Option.some.inj ho
   subst ho'
   simp [Region.binds] at haf
   have p12 : listed.getD 12 true = true := waitsR (by simp [haf])
   obtain rfl := hJ.f12 p12
   have HJ := Lib.hid hJ
   clear hJ haf
   try unfold pt
   go_simp
   have hJ := HJ.out
   exact hK _ _ ⟨_, _, _, _, _, _, _, _, _, _, _, _, _, _, _, _, _, _, _, _, _, ⟨fun x => hJ.f0 (upneR (by decide) x), fun x => hJ.f1 (upneR (by decide) x), fun x => hJ.f2 (upneR (by decide) x), fun x => hJ.f3 (upneR (by decide) x), fun x => hJ.f4 (upneR (by decide) x), fun x => hJ.f5 (upneR (by decide) x), fun x => hJ.f6 (upneR (by decide) x), fun x => hJ.f7 (upneR (by decide) x), fun x => hJ.f8 (upneR (by decide) x), fun x => hJ.f9 (upneR (by decide) x), fun x => hJ.f10 (upneR (by decide) x), fun x => hJ.f11 (upneR (by decide) x), fun x => hJ.f12 (upneR (by decide) x), fun _ => rfl, fun x => hJ.f14 (upneR (by decide) x), fun x => hJ.f15 (upneR (by decide) x), fun x => hJ.f16 (upneR (by decide) x), fun x => hJ.f17 (upneR (by decide) x), fun x => hJ.f18 (upneR (by decide) x), fun x => by obtain ⟨s, e1, e2⟩ := hJ.f19 (upneR (by decide) x); exact ⟨s, e1, ⟨e2.1, fun e => e2.2 (by rw [upeqR (by decide)] at e; exact e)⟩⟩, fun x => hJ.f20 (upneR (by decide) x), fun x => hJ.f21 (upneR (by decide) x), fun x => by rw [upeqR (by decide)]; exact hJ.q20_15 (upneR (by decide) x), fun x => by rw [upeqR (by decide)]; exact hJ.q20_19 (upneR (by decide) x), hJ.w⟩, rfl⟩
  ·have ho' := Option.some.inj ho
   subst ho'
   simp [Region.binds] at haf
   have p13 : listed.getD 13 true = true := waitsR (by simp [haf])
   obtain rfl := hJ.f13 p13
   have e1 := (hJ.w.cell (p := ⟨g, 1, none⟩) hlg).trans hg1
   have HJ := Lib.hid hJ
   clear hJ haf
   try unfold pt
   go_simp
   have hJ := HJ.out
   exact hK _ _ ⟨_, _, _, _, _, _, _, _, _, _, _, _, _, _, _, _, _, _, _, _, _, ⟨fun x => hJ.f0 (upneR (by decide) x), fun x => hJ.f1 (upneR (by decide) x), fun x => hJ.f2 (upneR (by decide) x), fun x => hJ.f3 (upneR (by decide) x), fun x => hJ.f4 (upneR (by decide) x), fun x => hJ.f5 (upneR (by decide) x), fun x => hJ.f6 (upneR (by decide) x), fun x => hJ.f7 (upneR (by decide) x), fun x => hJ.f8 (upneR (by decide) x), fun x => hJ.f9 (upneR (by decide) x), fun x => hJ.f10 (upneR (by decide) x), fun x => hJ.f11 (upneR (by decide) x), fun x => hJ.f12 (upneR (by decide) x), fun x => hJ.f13 (upneR (by decide) x), fun _ => rfl, fun x => hJ.f15 (upneR (by decide) x), fun x => hJ.f16 (upneR (by decide) x), fun x => hJ.f17 (upneR (by decide) x), fun x => hJ.f18 (upneR (by decide) x), fun x => by obtain ⟨s, e1, e2⟩ := hJ.f19 (upneR (by decide) x); exact ⟨s, e1, ⟨e2.1, fun e => e2.2 (by rw [upeqR (by decide)] at e; exact e)⟩⟩, fun x => hJ.f20 (upneR (by decide) x), fun x => hJ.f21 (upneR (by decide) x), fun x => by rw [upeqR (by decide)]; exact hJ.q20_15 (upneR (by decide) x), fun x => by rw [upeqR (by decide)]; exact hJ.q20_19 (upneR (by decide) x), hJ.w⟩, rfl⟩
  ·have ho' := Option.some.inj ho
   subst ho'
   simp [Region.binds] at haf
   have p8 : listed.getD 8 true = true := waitsR (by simp [haf])
   have p9 : listed.getD 9 true = true := waitsR (by simp [haf])
   have p14 : listed.getD 14 true = true := waitsR (by simp [haf])
   obtain rfl := hJ.f8 p8
   obtain rfl := hJ.f9 p9
   obtain rfl := hJ.f14 p14
   have hc := hcall W hJ.w
   have HJ := Lib.hid hJ
   clear hJ haf
   try unfold pt
   go_simp
   go_at_call 156
   refine hc.mono ?_
   rintro e' w2 ⟨T, M, rfl, hT, hM, hb2⟩
   have hJ := HJ.out
   exact hK _ _ ⟨_, _, _, _, _, _, _, _, _, _, _, _, _, _, _, _, _, _, _, _, _, ⟨fun x => hJ.f0 (upneR (by decide) x), fun x => hJ.f1 (upneR (by decide) x), fun x => hJ.f2 (upneR (by decide) x), fun x => hJ.f3 (upneR (by decide) x), fun x => hJ.f4 (upneR (by decide) x), fun x => hJ.f5 (upneR (by decide) x), fun x => hJ.f6 (upneR (by decide) x), fun x => hJ.f7 (upneR (by decide) x), fun x => hJ.f8 (upneR (by decide) x), fun x => hJ.f9 (upneR (by decide) x), fun x => hJ.f10 (upneR (by decide) x), fun x => hJ.f11 (upneR (by decide) x), fun x => hJ.f12 (upneR (by decide) x), fun x => hJ.f13 (upneR (by decide) x), fun x => hJ.f14 (upneR (by decide) x), fun _ => ⟨(T, M), rfl, own_base hT hJ.w.size, own_base hM hJ.w.size⟩, fun x => by obtain ⟨s, e1, e2⟩ := hJ.f16 (upneR (by decide) x); exact ⟨s, e1, RunOut.below e2 hb2⟩, fun x => by obtain ⟨s, e1, e2⟩ := hJ.f17 (upneR (by decide) x); exact ⟨s, e1, RunOut.below e2 hb2⟩, fun x => hJ.f18 (upneR (by decide) x), fun x => by obtain ⟨s, e1, e2⟩ := hJ.f19 (upneR (by decide) x); exact ⟨s, e1, ⟨e2.1, fun e => (e2.2 (by rw [upeqR (by decide)] at e; exact e)).below hb2 (e2.2 (by rw [upeqR (by decide)] at e; exact e)).lt⟩⟩, fun x => by have e := hJ.q20_15 (upneR (by decide) x); rw [hl] at e; exact absurd e (by decide), fun x => hJ.f21 (upneR (by decide) x), fun _ => upselfR, fun x => by rw [upeqR (by decide)]; exact hJ.q20_19 (upneR (by decide) x), hJ.w.trans (hb2.mono hJ.w.size)⟩, rfl⟩
  ·have ho' := Option.some.inj ho
   subst ho'
   simp [Region.binds] at haf
   have p15 : listed.getD 15 true = true := waitsR (by simp [haf])
   obtain ⟨s15, rfl, hE15⟩ := hJ.f15 p15
   have HJ := Lib.hid hJ
   clear hJ haf
   try unfold pt
   go_simp
   have hJ := HJ.out
   exact hK _ _ ⟨_, _, _, _, _, _, _, _, _, _, _, _, _, _, _, _, _, _, _, _, _, ⟨fun x => hJ.f0 (upneR (by decide) x), fun x => hJ.f1 (upneR (by decide) x), fun x => hJ.f2 (upneR (by decide) x), fun x => hJ.f3 (upneR (by decide) x), fun x => hJ.f4 (upneR (by decide) x), fun x => hJ.f5 (upneR (by decide) x), fun x => hJ.f6 (upneR (by decide) x), fun x => hJ.f7 (upneR (by decide) x), fun x => hJ.f8 (upneR (by decide) x), fun x => hJ.f9 (upneR (by decide) x), fun x => hJ.f10 (upneR (by decide) x), fun x => hJ.f11 (upneR (by decide) x), fun x => hJ.f12 (upneR (by decide) x), fun x => hJ.f13 (upneR (by decide) x), fun x => hJ.f14 (upneR (by decide) x), fun x => hJ.f15 (upneR (by decide) x), fun _ => ⟨s15, rfl, hE15⟩, fun x => hJ.f17 (upneR (by decide) x), fun x => hJ.f18 (upneR (by decide) x), fun x => by obtain ⟨s, e1, e2⟩ := hJ.f19 (upneR (by decide) x); exact ⟨s, e1, ⟨e2.1, fun e => e2.2 (by rw [upeqR (by decide)] at e; exact e)⟩⟩, fun x => hJ.f20 (upneR (by decide) x), fun x => hJ.f21 (upneR (by decide) x), fun x => by rw [upeqR (by decide)]; exact hJ.q20_15 (upneR (by decide) x), fun x => by rw [upeqR (by decide)]; exact hJ.q20_19 (upneR (by decide) x), hJ.w⟩, rfl⟩
  ·have ho' := Option.some.inj ho
   subst ho'
   simp [Region.binds] at haf
   have p16 : listed.getD 16 true = true := waitsR (by simp [haf])
   obtain ⟨s16, rfl, hE16⟩ := hJ.f16 p16
   have HJ := Lib.hid hJ
   clear hJ haf
   try unfold pt
   go_simp
   have hJ := HJ.out
   exact hK _ _ ⟨_, _, _, _, _, _, _, _, _, _, _, _, _, _, _, _, _, _, _, _, _, ⟨fun x => hJ.f0 (upneR (by decide) x), fun x => hJ.f1 (upneR (by decide) x), fun x => hJ.f2 (upneR (by decide) x), fun x => hJ.f3 (upneR (by decide) x), fun x => hJ.f4 (upneR (by decide) x), fun x => hJ.f5 (upneR (by decide) x), fun x => hJ.f6 (upneR (by decide) x), fun x => hJ.f7 (upneR (by decide) x), fun x => hJ.f8 (upneR (by decide) x), fun x => hJ.f9 (upneR (by decide) x), fun x => hJ.f10 (upneR (by decide) x), fun x => hJ.f11 (upneR (by decide) x), fun x => hJ.f12 (upneR (by decide) x), fun x => hJ.f13 (upneR (by decide) x), fun x => hJ.f14 (upneR (by decide) x), fun x => hJ.f15 (upneR (by decide) x), fun x => hJ.f16 (upneR (by decide) x), fun _ => ⟨s16, rfl, hE16⟩, fun x => hJ.f18 (upneR (by decide) x), fun x => by obtain ⟨s, e1, e2⟩ := hJ.f19 (upneR (by decide) x); exact ⟨s, e1, ⟨e2.1, fun e => e2.2 (by rw [upeqR (by decide)] at e; exact e)⟩⟩, fun x => hJ.f20 (upneR (by decide) x), fun x => hJ.f21 (upneR (by decide) x), fun x => by rw [upeqR (by decide)]; exact hJ.q20_15 (upneR (by decide) x), fun x => by rw [upeqR (by decide)]; exact hJ.q20_19 (upneR (by decide) x), hJ.w⟩, rfl⟩
  ·have ho' := Option.some.inj ho
   subst ho'
   simp [Region.binds] at haf
   have p16 : listed.getD 16 true = true := waitsR (by simp [haf])
   obtain ⟨s16, rfl, hE16⟩ := hJ.f16 p16
   have HJ := Lib.hid hJ
   clear hJ haf
   try unfold pt
   go_simp
   have hJ := HJ.out
   exact hK _ _ ⟨_, _, _, _, _, _, _, _, _, _, _, _, _, _, _, _, _, _, _, _, _, ⟨fun x => hJ.f0 (upneR (by decide) x), fun x => hJ.f1 (upneR (by decide) x), fun x => hJ.f2 (upneR (by decide) x), fun x => hJ.f3 (upneR (by decide) x), fun x => hJ.f4 (upneR (by decide) x), fun x => hJ.f5 (upneR (by decide) x), fun x => hJ.f6 (upneR (by decide) x), fun x => hJ.f7 (upneR (by decide) x), fun x => hJ.f8 (upneR (by decide) x), fun x => hJ.f9 (upneR (by decide) x), fun x => hJ.f10 (upneR (by decide) x), fun x => hJ.f11 (upneR (by decide) x), fun x => hJ.f12 (upneR (by decide) x), fun x => hJ.f13 (upneR (by decide) x), fun x => hJ.f14 (upneR (by decide) x), fun x => hJ.f15 (upneR (by decide) x), fun x => hJ.f16 (upneR (by decide) x), fun x => hJ.f17 (upneR (by decide) x), fun _ => rfl, fun x => by obtain ⟨s, e1, e2⟩ := hJ.f19 (upneR (by decide) x); exact ⟨s, e1, ⟨e2.1, fun e => e2.2 (by rw [upeqR (by decide)] at e; exact e)⟩⟩, fun x => hJ.f20 (upneR (by decide) x), fun x => hJ.f21 (upneR (by decide) x), fun x => by rw [upeqR (by decide)]; exact hJ.q20_15 (upneR (by decide) x), fun x => by rw [upeqR (by decide)]; exact hJ.q20_19 (upneR (by decide) x), hJ.w⟩, rfl⟩
  ·have ho' := Option.some.inj ho
   subst ho'
   have HJ := Lib.hid hJ
   clear hJ haf
   try unfold pt
   go_simp
   have hJ := HJ.out
   exact hK _ _ ⟨_, _, _, _, _, _, _, _, _, _, _, _, _, _, _, _, _, _, _, _, _, ⟨fun x => hJ.f0 (upneR (by decide) x), fun x => hJ.f1 (upneR (by decide) x), fun x => hJ.f2 (upneR (by decide) x), fun x => hJ.f3 (upneR (by decide) x), fun x => hJ.f4 (upneR (by decide) x), fun x => hJ.f5 (upneR (by decide) x), fun x => hJ.f6 (upneR (by decide) x), fun x => hJ.f7 (upneR (by decide) x), fun x => hJ.f8 (upneR (by decide) x), fun x => hJ.f9 (upneR (by decide) x), fun x => hJ.f10 (upneR (by decide) x), fun x => hJ.f11 (upneR (by decide) x), fun x => hJ.f12 (upneR (by decide) x), fun x => hJ.f13 (upneR (by decide) x), fun x => hJ.f14 (upneR (by decide) x), fun x => by obtain ⟨s, e1, e2⟩ := hJ.f15 (upneR (by decide) x); exact ⟨s, e1, RunOut.below e2 ((Below.refl _ _).alloc (Nat.le_refl _) _)⟩, fun x => by obtain ⟨s, e1, e2⟩ := hJ.f16 (upneR (by decide) x); exact ⟨s, e1, RunOut.below e2 ((Below.refl _ _).alloc (Nat.le_refl _) _)⟩, fun x => by obtain ⟨s, e1, e2⟩ := hJ.f17 (upneR (by decide) x); exact ⟨s, e1, RunOut.below e2 ((Below.refl _ _).alloc (Nat.le_refl _) _)⟩, fun x => hJ.f18 (upneR (by decide) x), fun _ => ⟨W.heap.size, rfl, hJ.w.size, fun _ => Blk.new _ _ _⟩, fun x => by have e := hJ.q20_19 (upneR (by decide) x); rw [hl] at e; exact absurd e (by decide), fun x => hJ.f21 (upneR (by decide) x), fun x => by rw [upeqR (by decide)]; exact hJ.q20_15 (upneR (by decide) x), fun _ => upselfR, hJ.w.alloc hJ.w.size _⟩, rfl⟩
  ·have ho' := Option.some.inj ho
   subst ho'
   simp [Region.binds] at haf
   have p19 : listed.getD 19 true = true := waitsR (by simp [haf])
   have p17 : listed.getD 17 true = true := waitsR (by simp [haf])
   have p15 : listed.getD 15 true = true := waitsR (by simp [haf])
   obtain ⟨s19, rfl, hE19⟩ := hJ.f19 p19
   obtain ⟨s17, rfl, hE17⟩ := hJ.f17 p17
   obtain ⟨s15, rfl, hE15⟩ := hJ.f15 p15
   obtain ⟨hge, hbl⟩ := hE19
   have hbl := hbl hl
   have hlt := hbl.lt
   have fz0 := hbl.frozen 0
   have fz1 := hbl.frozen 1
   have fz2 := hbl.frozen 2
   have fz3 := hbl.frozen 3
   have fz4 := hbl.frozen 4
   have fz5 := hbl.frozen 5
   have fz6 := hbl.frozen 6
   have fz7 := hbl.frozen 7
   have fz8 := hbl.frozen 8
   have fz9 := hbl.frozen 9
   have fz10 := hbl.frozen 10
   have m0 := hbl.cell 0
   have m1 := hbl.cell 1
   have m2 := hbl.cell 2
   have m3 := hbl.cell 3
   have m4 := hbl.cell 4
   have m5 := hbl.cell 5
   have m6 := hbl.cell 6
   have m7 := hbl.cell 7
   have m8 := hbl.cell 8
   have m9 := hbl.cell 9
   have m10 := hbl.cell 10
   simp at m0 m1 m2 m3 m4 m5 m6 m7 m8 m9 m10
   obtain ⟨T, M⟩ := s17
   have hET : W.ownsRow w0.heap.size 3 1 T r.1.told.length (natsV r.1.told) := hE17.1
   have hEM : W.ownsRow w0.heap.size 3 1 M r.1.mem.length (natsV r.1.mem) := hE17.2
   obtain ⟨AT, cT, rfl⟩ := own_slice hET
   obtain ⟨AM, cM, rfl⟩ := own_slice hEM
   have HL := Lib.hid (lay11 (B := w0.heap.size) hge hbl (natV r.2) (natV (r.1.regs.getD 0 0)) (natV (r.1.regs.getD 1 0)) (natV (r.1.regs.getD 2 0)) (natV (r.1.regs.getD 3 0)) (natV (r.1.regs.getD 4 0)) (natV (r.1.regs.getD 5 0)) (natV (r.1.regs.getD 6 0)) (natV (r.1.regs.getD 7 0)) (.slice AT r.1.told.length cT) (.slice AM r.1.mem.length cM))
   unfold outV natV
   have HJ := Lib.hid hJ
   clear hJ haf
   try unfold pt
   go_simp
   have hJ := HJ.out
   have L := HL.out
   exact hK _ _ ⟨_, _, _, _, _, _, _, _, _, _, _, _, _, _, _, _, _, _, _, _, _, ⟨fun x => hJ.f0 (upneR (by decide) x), fun x => hJ.f1 (upneR (by decide) x), fun x => hJ.f2 (upneR (by decide) x), fun x => hJ.f3 (upneR (by decide) x), fun x => hJ.f4 (upneR (by decide) x), fun x => hJ.f5 (upneR (by decide) x), fun x => hJ.f6 (upneR (by decide) x), fun x => hJ.f7 (upneR (by decide) x), fun x => hJ.f8 (upneR (by decide) x), fun x => hJ.f9 (upneR (by decide) x), fun x => hJ.f10 (upneR (by decide) x), fun x => hJ.f11 (upneR (by decide) x), fun x => hJ.f12 (upneR (by decide) x), fun x => hJ.f13 (upneR (by decide) x), fun x => hJ.f14 (upneR (by decide) x), fun x => by obtain ⟨s, e1, e2⟩ := hJ.f15 (upneR (by decide) x); exact ⟨s, e1, RunOut.tch e2 L.2.1 (by decide)⟩, fun x => by obtain ⟨s, e1, e2⟩ := hJ.f16 (upneR (by decide) x); exact ⟨s, e1, RunOut.tch e2 L.2.1 (by decide)⟩, fun x => by obtain ⟨s, e1, e2⟩ := hJ.f17 (upneR (by decide) x); exact ⟨s, e1, RunOut.tch e2 L.2.1 (by decide)⟩, fun x => hJ.f18 (upneR (by decide) x), fun x => by obtain ⟨s, e1, e2⟩ := hJ.f19 (upneR (by decide) x); exact ⟨s, e1, ⟨e2.1, fun e => absurd e (by rw [upselfR]; decide)⟩⟩, fun _ => ⟨s19, _, _, rfl, hge, L.1, RunOut.tch (T := .slice AT r.1.told.length cT) (M := .slice AM r.1.mem.length cM) ⟨hET, hEM⟩ L.2.1 (by decide)⟩, fun x => hJ.f21 (upneR (by decide) x), fun _ => by rw [upeqR (by decide)]; exact p15, fun _ => by rw [upeqR (by decide)]; exact p19, hJ.w.trans L.2.2⟩, rfl⟩
  ·have ho' := Option.some.inj ho
   subst ho'
   simp [Region.binds] at haf
   have p18 : listed.getD 18 true = true := waitsR (by simp [haf])
   have p20 : listed.getD 20 true = true := waitsR (by simp [haf])
   obtain rfl := hJ.f18 p18
   have HJ := Lib.hid hJ
   clear hJ haf
   try unfold pt
   go_simp
   have hJ := HJ.out
   exact hK _ _ ⟨_, _, _, _, _, _, _, _, _, _, _, _, _, _, _, _, _, _, _, _, _, ⟨fun x => hJ.f0 (upneR (by decide) x), fun x => hJ.f1 (upneR (by decide) x), fun x => hJ.f2 (upneR (by decide) x), fun x => hJ.f3 (upneR (by decide) x), fun x => hJ.f4 (upneR (by decide) x), fun x => hJ.f5 (upneR (by decide) x), fun x => hJ.f6 (upneR (by decide) x), fun x => hJ.f7 (upneR (by decide) x), fun x => hJ.f8 (upneR (by decide) x), fun x => hJ.f9 (upneR (by decide) x), fun x => hJ.f10 (upneR (by decide) x), fun x => hJ.f11 (upneR (by decide) x), fun x => hJ.f12 (upneR (by decide) x), fun x => hJ.f13 (upneR (by decide) x), fun x => hJ.f14 (upneR (by decide) x), fun x => hJ.f15 (upneR (by decide) x), fun x => hJ.f16 (upneR (by decide) x), fun x => hJ.f17 (upneR (by decide) x), fun x => hJ.f18 (upneR (by decide) x), fun x => by obtain ⟨s, e1, e2⟩ := hJ.f19 (upneR (by decide) x); exact ⟨s, e1, ⟨e2.1, fun e => e2.2 (by rw [upeqR (by decide)] at e; exact e)⟩⟩, fun x => hJ.f20 (upneR (by decide) x), fun _ => rfl, fun x => by rw [upeqR (by decide)]; exact hJ.q20_15 (upneR (by decide) x), fun x => by rw [upeqR (by decide)]; exact hJ.q20_19 (upneR (by decide) x), hJ.w⟩, rfl⟩
 case fin =>
  intro listed a W hall hI
  obtain ⟨y10, y11, y18, y19, y20, y21, y22, y23, y24, y25, y26, y27, y28, y29, y30, y31, y32, y33, y34, y35, y36, hJ, rfl⟩ := hI
  exact HQ.out listed W _ _ _ _ _ _ _ _ _ _ _ _ _ _ _ _ _ _ _ _ _ hall hJ
end Go.Proofs.YtdjamdbamkhblacDoor
namespace Go.Proofs.YtdjamdbamkhblacDoor
open Go.RowKit
def entBad (r x : Int) : Bool := decide (r < 0 ∨ 15 < r ∨ x < 0 ∨ 65535 < x)
def regsV (a b c d e f g h : Int) : Value := .agg #[.int .i64 a, .int .i64 b, .int .i64 c, .int .i64 d, .int .i64 e, .int .i64 f, .int .i64 g, .int .i64 h]
def entV (r x : Int) : Value := .tuple #[if entBad r x then regsV 0 0 0 0 0 0 0 0 else regsV x 0 0 0 (r * 64) (r * 64) 63 0, .int .i64 (if entBad r x then 2 else 0)]
set_option maxHeartbeats 1000000 in
theorem Enter_any (r x : Int) (w : World) :
  Calls Tryd.prog 155 #[.int .i64 r, .int .i64 x] w fun e w' => e = .returned (entV r x) ∧ Below w.heap.size w w' := by
 cases hb : entBad r x with
 | true =>
   have HB := Lib.hid hb
   have h : r < 0 ∨ 15 < r ∨ x < 0 ∨ 65535 < x := by simpa [entBad] using hb
   clear hb
   have hv : Hid (entV r x = .tuple #[regsV 0 0 0 0 0 0 0 0, .int .i64 2]) := by show _ = _; simp [entV, HB.out]
   clear HB
   have FIN : Hid (∀ w' : World, Below w.heap.size w w' → (Ending.returned (.tuple #[.agg #[.int .i64 0, .int .i64 0, .int .i64 0, .int .i64 0, .int .i64 0, .int .i64 0, .int .i64 0, .int .i64 0], .int .i64 2]) = .returned (entV r x) ∧ Below w.heap.size w w')) := fun w' h => ⟨by rw [hv.out]; rfl, h⟩
   clear hv
   by_cases h1 : r < 0
   ·clear h
    go_enter Tryd.func155, Tryd.ntmps155
    go_wp2
    refine bodyPost_ret (v := .tuple #[.agg #[.int .i64 0, .int .i64 0, .int .i64 0, .int .i64 0, .int .i64 0, .int .i64 0, .int .i64 0, .int .i64 0], .int .i64 2]) (by simp [results, Tryd.results155, go_sem]) rfl (FIN.out _ ?_)
    exact (Below.refl _ _).alloc (Nat.le_refl _) _
   ·skip
    by_cases h2 : 15 < r
    ·clear h
     go_enter Tryd.func155, Tryd.ntmps155
     go_wp2
     refine bodyPost_ret (v := .tuple #[.agg #[.int .i64 0, .int .i64 0, .int .i64 0, .int .i64 0, .int .i64 0, .int .i64 0, .int .i64 0, .int .i64 0], .int .i64 2]) (by simp [results, Tryd.results155, go_sem]) rfl (FIN.out _ ?_)
     exact (Below.refl _ _).alloc (Nat.le_refl _) _
    ·skip
     by_cases h3 : x < 0
     ·clear h
      go_enter Tryd.func155, Tryd.ntmps155
      go_wp2
      refine bodyPost_ret (v := .tuple #[.agg #[.int .i64 0, .int .i64 0, .int .i64 0, .int .i64 0, .int .i64 0, .int .i64 0, .int .i64 0, .int .i64 0], .int .i64 2]) (by simp [results, Tryd.results155, go_sem]) rfl (FIN.out _ ?_)
      exact (Below.refl _ _).alloc (Nat.le_refl _) _
     ·have h4 : 65535 < x := by omega
      clear h
      go_enter Tryd.func155, Tryd.ntmps155
      go_wp2
      refine bodyPost_ret (v := .tuple #[.agg #[.int .i64 0, .int .i64 0, .int .i64 0, .int .i64 0, .int .i64 0, .int .i64 0, .int .i64 0, .int .i64 0], .int .i64 2]) (by simp [results, Tryd.results155, go_sem]) rfl (FIN.out _ ?_)
      exact (Below.refl _ _).alloc (Nat.le_refl _) _
 | false =>
   have HB := Lib.hid hb
   have h : ¬ (r < 0 ∨ 15 < r ∨ x < 0 ∨ 65535 < x) := by simpa [entBad] using hb
   have h1 : 0 ≤ r := by omega
   have h2 : r ≤ 15 := by omega
   have h3 : 0 ≤ x := by omega
   have h4 : x ≤ 65535 := by omega
   clear hb h
   have hv : Hid (entV r x = .tuple #[regsV x 0 0 0 (r * 64) (r * 64) 63 0, .int .i64 0]) := by show _ = _; simp [entV, HB.out]
   clear HB
   have FIN : Hid (∀ w' : World, Below w.heap.size w w' → (Ending.returned (.tuple #[.agg #[.int .i64 x, .int .i64 0, .int .i64 0, .int .i64 0, .int .i64 (r * 64), .int .i64 (r * 64), .int .i64 63, .int .i64 0], .int .i64 0]) = .returned (entV r x) ∧ Below w.heap.size w w')) := fun w' h => ⟨by rw [hv.out]; rfl, h⟩
   clear hv
   go_enter Tryd.func155, Tryd.ntmps155
   go_wp2
   refine bodyPost_ret (v := .tuple #[.agg #[.int .i64 x, .int .i64 0, .int .i64 0, .int .i64 0, .int .i64 (r * 64), .int .i64 (r * 64), .int .i64 63, .int .i64 0], .int .i64 0]) (by simp [results, Tryd.results155, go_sem]) rfl (FIN.out _ ?_)
   exact (Below.refl _ _).alloc (Nat.le_refl _) _
end Go.Proofs.YtdjamdbamkhblacDoor
namespace Go.Proofs.YtdjamdbamkhblacDoor
open Go.RowKit
end Go.Proofs.YtdjamdbamkhblacDoor
