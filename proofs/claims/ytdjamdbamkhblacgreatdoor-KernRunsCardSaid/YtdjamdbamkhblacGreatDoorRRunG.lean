/- The drawn region of the reference's script: one act is done, its kernel and its answer are stored. No condition. By an AI agent (xrrun.py). -/
import Derived.Test.YtdjamdbamkhblacGreatDoorG02
import Derived.Test.YtdjamdbamkhblacGreatDoorG03
import Derived.Test.YtdjamdbamkhblacGreatDoorG12
namespace Go.Proofs.YtdjamdbamkhblacGreatDoor
open Go.RowKit
set_option linter.unusedVariables false
set_option linter.unusedSimpArgs false
/-- A kernel's rows, copied somewhere. -/
def HasK (W : World) (s : KA) (k : Krn) : Prop := k.fits ∧ ∃ (B : Nat) (ms : List (Value × Value)) (es : List Value), Copied W B (.slice s.a0 k.mods.length s.c0) (.slice s.a1 k.mem.length s.c1) (.slice s.a2 k.nodes.length s.c2) (.slice s.a3 k.pipes.length s.c3) (.slice s.a4 k.procs.length s.c4) k ms es
theorem HasK.below {W W' : World} {s : KA} {k : Krn} (h : HasK W s k) (hb : Below W.heap.size W W') : HasK W' s k := by
  obtain ⟨hf, B, ms, es, h⟩ := h
  exact ⟨hf, B, ms, es, h.below hb⟩
theorem HasK.tch {W W' : World} {s : KA} {k : Krn} {t : TypeId} (h : HasK W s k) (ht : Tch t W W') (hk : t = 36 ∨ t = 30) : HasK W' s k := by
  obtain ⟨hf, B, ms, es, h⟩ := h
  rcases hk with rfl | rfl
  · exact ⟨hf, B, ms, es, h.tch ht (by decide) (by decide) (by decide) (by decide) (by decide) (by decide) (by decide)⟩
  · exact ⟨hf, B, ms, es, h.tch ht (by decide) (by decide) (by decide) (by decide) (by decide) (by decide) (by decide)⟩
theorem tch_one {W W' : World} {s : Nat} {t : TypeId} {cs : Array Value} (h : Blk W s t cs) (g : W.grownBy W' (some s)) : Tch t W W' :=
  ⟨g.os, g.tape, g.output, g.size, fun q hq hne => g.block q hq fun e => by
    injection e with e
    subst e
    exact hne _ _ h⟩
theorem below_oneR {B s : Nat} {W W' : World} (hB : B ≤ s) (g : W.grownBy W' (some s)) (hs : B ≤ W.heap.size) : Below B W W' :=
  ⟨g.os, g.tape, g.output, g.size, fun q hq => g.block q (by omega) (fun e => by injection e with e; omega)⟩
theorem lay5K {W : World} {B s : Nat} {t : TypeId} {cs : Array Value} (hB : B ≤ s) (h : Blk W s t cs) (hs : cs.size = 5) (v0 v1 v2 v3 v4 : Value) :
    Blk (lay5 W s v0 v1 v2 v3 v4) s t #[v0, v1, v2, v3, v4] ∧ Tch t W (lay5 W s v0 v1 v2 v3 v4) ∧ Below B W (lay5 W s v0 v1 v2 v3 v4) := by
  have g := Bz8 W s v0 v1 v2 v3 v4
  exact ⟨h.lay5 hs v0 v1 v2 v3 v4, tch_one h g, below_oneR hB g (Nat.le_trans hB (Nat.le_of_lt h.lt))⟩
def lay3 (W : World) (b : Nat) (u0 u1 u2 : Value) : World := ((W.setCell ⟨b, 0, none⟩ u0).setCell ⟨b, 1, none⟩ u1).setCell ⟨b, 2, none⟩ u2
theorem lay3A {W : World} {B s : Nat} {t : TypeId} {c0 c1 c2 : Value} (hB : B ≤ s) (h : Blk W s t #[c0, c1, c2]) (v0 v1 v2 : Value) :
    Blk (lay3 W s v0 v1 v2) s t #[v0, v1, v2] ∧ Tch t W (lay3 W s v0 v1 v2) ∧ Below B W (lay3 W s v0 v1 v2) := by
  have g : W.grownBy (lay3 W s v0 v1 v2) (some s) := ((Bzg W ⟨s, 0, none⟩ v0).trans (Bzg _ ⟨s, 1, none⟩ v1)).trans (Bzg _ ⟨s, 2, none⟩ v2)
  exact ⟨((h.set_ 0 v0).set_ 1 v1).set_ 2 v2, tch_one h g, below_oneR hB g (Nat.le_trans hB (Nat.le_of_lt h.lt))⟩
structure RrJ (w0 : World) (g b o n c j : Nat) (ka : KA) (k : Krn) (x0 x1 x2 x3 : Int) (x4 x5 : ByteArray) (ko : Krn) (rc rn : Int) (rd : ByteArray) (er : Int) (t0t t1t t2t t3t t4t t5t t6t t7t t8t t9t t10t t11t t12t t13t t14t : Bool) (W : World) (y8 y9 y10 y22 y23 y24 y25 y26 y27 y28 y29 y30 y31 : Value) : Prop where
  f0 : t0t = true → y23 = .agg #[.slice ka.a0 k.mods.length ka.c0, .slice ka.a1 k.mem.length ka.c1, .slice ka.a2 k.nodes.length ka.c2, .slice ka.a3 k.pipes.length ka.c3, .slice ka.a4 k.procs.length ka.c4]
  f1 : t1t = true → y24 = .slice (some ⟨b, o, none⟩) n c
  f2 : t2t = true → y25 = .int .i64 (j : Int)
  f3 : t3t = true → y26 = .pointer (some ⟨b, o + j * 6, none⟩)
  f4 : t4t = true → y27 = .agg #[.int .i64 x0, .int .i64 x1, .int .i64 x2, .int .i64 x3, .string x4, .string x5]
  f5 : t5t = true → ∃ s : KA, y28 = .tuple #[.agg #[.slice s.a0 ko.mods.length s.c0, .slice s.a1 ko.mem.length s.c1, .slice s.a2 ko.nodes.length s.c2, .slice s.a3 ko.pipes.length s.c3, .slice s.a4 ko.procs.length s.c4], .agg #[.int .i64 rc, .int .i64 rn, .string rd], .int .i64 er] ∧ (er = 0 → HasK W s ko)
  f6 : t6t = true → ∃ s : KA, y22 = .tuple #[.agg #[.slice s.a0 ko.mods.length s.c0, .slice s.a1 ko.mem.length s.c1, .slice s.a2 ko.nodes.length s.c2, .slice s.a3 ko.pipes.length s.c3, .slice s.a4 ko.procs.length s.c4], .agg #[.int .i64 rc, .int .i64 rn, .string rd], .int .i64 er] ∧ (er = 0 → HasK W s ko)
  f7 : t7t = true → ∃ s : KA, y29 = .agg #[.slice s.a0 ko.mods.length s.c0, .slice s.a1 ko.mem.length s.c1, .slice s.a2 ko.nodes.length s.c2, .slice s.a3 ko.pipes.length s.c3, .slice s.a4 ko.procs.length s.c4] ∧ (er = 0 → HasK W s ko)
  f8 : t8t = true → y30 = .agg #[.int .i64 rc, .int .i64 rn, .string rd]
  f9 : t9t = true → y31 = .int .i64 er
  f10 : t10t = true → ∃ s : Nat, y8 = .pointer (some ⟨s, 0, none⟩) ∧ w0.heap.size ≤ s ∧ (t12t = false → Blk W s 30 #[.slice none 0 0, .slice none 0 0, .slice none 0 0, .slice none 0 0, .slice none 0 0])
  f11 : t11t = true → ∃ s : Nat, y9 = .pointer (some ⟨s, 0, none⟩) ∧ w0.heap.size ≤ s ∧ (t13t = false → Blk W s 36 #[.int .i64 0, .int .i64 0, .string ⟨#[]⟩])
  f12 : t12t = true → ∃ (q : Nat) (s : KA), y8 = .pointer (some ⟨q, 0, none⟩) ∧ w0.heap.size ≤ q ∧ Blk W q 30 (s.cells ko) ∧ (er = 0 → HasK W s ko)
  f13 : t13t = true → ∃ q : Nat, y9 = .pointer (some ⟨q, 0, none⟩) ∧ w0.heap.size ≤ q ∧ Blk W q 36 #[.int .i64 rc, .int .i64 rn, .string rd]
  f14 : t14t = true → y10 = .int .i64 er
  q12_5 : t12t = true → t5t = true
  q12_10 : t12t = true → t10t = true
  q12_11 : t12t = true → t11t = true
  q13_5 : t13t = true → t5t = true
  q13_10 : t13t = true → t10t = true
  q13_11 : t13t = true → t11t = true
  q13_12 : t13t = true → t12t = true
  w : Below w0.heap.size w0 W
noncomputable def rrRegC : Code := ((Tryz.f5.body.bind (Czf 8)).getD .skip)
set_option maxRecDepth 1000000 in
set_option maxHeartbeats 8000000 in
theorem rrReg (w0 : World) (g b o n c j : Nat) (ka : KA) (k : Krn) (x0 x1 x2 x3 : Int) (x4 x5 : ByteArray) (ko : Krn) (rc rn : Int) (rd : ByteArray) (er : Int) {v1 v2 v3 v4 v6 v8 v9 v10 v11 v12 v13 v14 v15 v16 v17 v18 v19 v20 v21 v22 v23 v24 v25 v26 v27 v28 v29 v30 v31 v32 v33 v34 v35 v36 v37 v38 v39 v40 v41 v42 : Value} (wr : World) (Q : Exit → Act → World → Prop) (hbs : Below w0.heap.size w0 wr.drew) (hlg : g < w0.heap.size) (hlb : b < w0.heap.size) (hj : j < n) (hg0 : w0.cell? ⟨g, 0, none⟩ = some (.slice ka.a0 k.mods.length ka.c0)) (hg1 : w0.cell? ⟨g, 1, none⟩ = some (.slice ka.a1 k.mem.length ka.c1)) (hg2 : w0.cell? ⟨g, 2, none⟩ = some (.slice ka.a2 k.nodes.length ka.c2)) (hg3 : w0.cell? ⟨g, 3, none⟩ = some (.slice ka.a3 k.pipes.length ka.c3)) (hg4 : w0.cell? ⟨g, 4, none⟩ = some (.slice ka.a4 k.procs.length ka.c4)) (hx0 : w0.cell? ⟨b, o + j * 6, none⟩ = some (.int .i64 x0)) (hx1 : w0.cell? ⟨b, o + j * 6 + 1, none⟩ = some (.int .i64 x1)) (hx2 : w0.cell? ⟨b, o + j * 6 + 2, none⟩ = some (.int .i64 x2)) (hx3 : w0.cell? ⟨b, o + j * 6 + 3, none⟩ = some (.int .i64 x3)) (hx4 : w0.cell? ⟨b, o + j * 6 + 4, none⟩ = some (.string x4)) (hx5 : w0.cell? ⟨b, o + j * 6 + 5, none⟩ = some (.string x5))
    (hcall : ∀ W : World, Below w0.heap.size w0 W → Calls Tryz.prog 10 #[.agg #[.slice ka.a0 k.mods.length ka.c0, .slice ka.a1 k.mem.length ka.c1, .slice ka.a2 k.nodes.length ka.c2, .slice ka.a3 k.pipes.length ka.c3, .slice ka.a4 k.procs.length ka.c4], .agg #[.int .i64 x0, .int .i64 x1, .int .i64 x2, .int .i64 x3, .string x4, .string x5]] W fun e W' => ∃ s : KA, e = .returned (.tuple #[.agg #[.slice s.a0 ko.mods.length s.c0, .slice s.a1 ko.mem.length s.c1, .slice s.a2 ko.nodes.length s.c2, .slice s.a3 ko.pipes.length s.c3, .slice s.a4 ko.procs.length s.c4], .agg #[.int .i64 rc, .int .i64 rn, .string rd], .int .i64 er]) ∧ Below W.heap.size W W' ∧ (er = 0 → HasK W' s ko))
    (hQ : ∀ (listed : Array Bool) (W : World) (y8 y9 y10 y22 y23 y24 y25 y26 y27 y28 y29 y30 y31 : Value), (∀ i, i < 15 → listed.getD i true = true) → RrJ w0 g b o n c j ka k x0 x1 x2 x3 x4 x5 ko rc rn rd er (listed.getD 0 true) (listed.getD 1 true) (listed.getD 2 true) (listed.getD 3 true) (listed.getD 4 true) (listed.getD 5 true) (listed.getD 6 true) (listed.getD 7 true) (listed.getD 8 true) (listed.getD 9 true) (listed.getD 10 true) (listed.getD 11 true) (listed.getD 12 true) (listed.getD 13 true) (listed.getD 14 true) W y8 y9 y10 y22 y23 y24 y25 y26 y27 y28 y29 y30 y31 → Q .normal ⟨#[.slice (some ⟨b, o, none⟩) n c, v1, v2, v3, v4, .pointer (some ⟨g, 0, none⟩), v6, .int .i64 (j : Int), y8, y9, y10, v11, v12, v13, v14, v15, v16, v17, v18, v19, v20, v21, y22, y23, y24, y25, y26, y27, y28, y29, y30, y31, v32, v33, v34, v35, v36, v37, v38, v39, v40, v41, v42], []⟩ W) :
    Code.wp Tryz.prog rrRegC Q ⟨#[.slice (some ⟨b, o, none⟩) n c, v1, v2, v3, v4, .pointer (some ⟨g, 0, none⟩), v6, .int .i64 (j : Int), v8, v9, v10, v11, v12, v13, v14, v15, v16, v17, v18, v19, v20, v21, v22, v23, v24, v25, v26, v27, v28, v29, v30, v31, v32, v33, v34, v35, v36, v37, v38, v39, v40, v41, v42], []⟩ wr := by
  have HQ := Lib.hid hQ
  clear hQ
  conv => arg 2; whnf
  refine Azj (fun listed a W => ∃ y8 y9 y10 y22 y23 y24 y25 y26 y27 y28 y29 y30 y31, RrJ w0 g b o n c j ka k x0 x1 x2 x3 x4 x5 ko rc rn rd er (listed.getD 0 true) (listed.getD 1 true) (listed.getD 2 true) (listed.getD 3 true) (listed.getD 4 true) (listed.getD 5 true) (listed.getD 6 true) (listed.getD 7 true) (listed.getD 8 true) (listed.getD 9 true) (listed.getD 10 true) (listed.getD 11 true) (listed.getD 12 true) (listed.getD 13 true) (listed.getD 14 true) W y8 y9 y10 y22 y23 y24 y25 y26 y27 y28 y29 y30 y31 ∧ a = ⟨#[.slice (some ⟨b, o, none⟩) n c, v1, v2, v3, v4, .pointer (some ⟨g, 0, none⟩), v6, .int .i64 (j : Int), y8, y9, y10, v11, v12, v13, v14, v15, v16, v17, v18, v19, v20, v21, y22, y23, y24, y25, y26, y27, y28, y29, y30, y31, v32, v33, v34, v35, v36, v37, v38, v39, v40, v41, v42], []⟩) (by kernel_rfl) (Czi (by kernel_rfl)) ?start ?step ?fin
  case start =>
    refine ⟨_, _, _, _, _, _, _, _, _, _, _, _, _, ?_, rfl⟩
    constructor
    all_goals first | exact hbs | exact fun _ => rfl | exact fun h => absurd h (by decide)
  case step =>
    intro i o ho listed a W hl haf hI K hK
    obtain ⟨y8, y9, y10, y22, y23, y24, y25, y26, y27, y28, y29, y30, y31, hJ, rfl⟩ := hI
    have hK := fun (W' : World) z8 z9 z10 z22 z23 z24 z25 z26 z27 z28 z29 z30 z31 h => hK _ W' ⟨z8, z9, z10, z22, z23, z24, z25, z26, z27, z28, z29, z30, z31, h, rfl⟩
    simp only [Az2] at hK
    have hi : i < 15 := (Array.getElem?_eq_some_iff.1 ho).1
    have h16 : i = 0 ∨ i = 1 ∨ i = 2 ∨ i = 3 ∨ i = 4 ∨ i = 5 ∨ i = 6 ∨ i = 7 ∨ i = 8 ∨ i = 9 ∨ i = 10 ∨ i = 11 ∨ i = 12 ∨ i = 13 ∨ i = 14 := by omega
    rcases h16 with rfl | rfl | rfl | rfl | rfl | rfl | rfl | rfl | rfl | rfl | rfl | rfl | rfl | rfl | rfl
    all_goals
      have ho := Option.some.inj ho
      subst ho
      try simp [Region.binds] at haf
    ·
      have e0 := (hJ.w.cell (p := ⟨g, 0, none⟩) hlg).trans hg0
      have e1 := (hJ.w.cell (p := ⟨g, 1, none⟩) hlg).trans hg1
      have e2 := (hJ.w.cell (p := ⟨g, 2, none⟩) hlg).trans hg2
      have e3 := (hJ.w.cell (p := ⟨g, 3, none⟩) hlg).trans hg3
      have e4 := (hJ.w.cell (p := ⟨g, 4, none⟩) hlg).trans hg4
      go_simp
      apply hK; exact { hJ with f0 := fun _ => rfl }
    ·
      go_simp
      apply hK; exact { hJ with f1 := fun _ => rfl }
    ·
      go_simp
      apply hK; exact { hJ with f2 := fun _ => rfl }
    ·
      obtain rfl := hJ.f1 (Az0 (by simp [haf]))
      obtain rfl := hJ.f2 (Az0 (by simp [haf]))
      have hu1 : (j : Int) < (n : Int) := by omega
      go_simp
      apply hK; exact { hJ with f3 := fun _ => rfl }
    ·
      obtain rfl := hJ.f3 (Az0 (by simp [haf]))
      have e0 := (hJ.w.cell (p := ⟨b, o + j * 6, none⟩) hlb).trans hx0
      have e1 := (hJ.w.cell (p := ⟨b, o + j * 6 + 1, none⟩) hlb).trans hx1
      have e2 := (hJ.w.cell (p := ⟨b, o + j * 6 + 2, none⟩) hlb).trans hx2
      have e3 := (hJ.w.cell (p := ⟨b, o + j * 6 + 3, none⟩) hlb).trans hx3
      have e4 := (hJ.w.cell (p := ⟨b, o + j * 6 + 4, none⟩) hlb).trans hx4
      have e5 := (hJ.w.cell (p := ⟨b, o + j * 6 + 5, none⟩) hlb).trans hx5
      go_simp
      apply hK; exact { hJ with f4 := fun _ => rfl }
    ·
      obtain rfl := hJ.f0 (Az0 (by simp [haf]))
      obtain rfl := hJ.f4 (Az0 (by simp [haf]))
      have hc := hcall W hJ.w
      go_simp
      go_at_call 10
      refine hc.mono ?_
      rintro e' w2 ⟨s, rfl, hb2, hk2⟩
      apply hK; exact { hJ with f5 := fun _ => ⟨s, rfl, hk2⟩, f6 := fun x => by obtain ⟨s, e1, e2⟩ := hJ.f6 x; exact ⟨s, e1, fun h => (e2 h).below hb2⟩, f7 := fun x => by obtain ⟨s, e1, e2⟩ := hJ.f7 x; exact ⟨s, e1, fun h => (e2 h).below hb2⟩, f10 := fun x => by obtain ⟨s, e1, e2⟩ := hJ.f10 x; exact ⟨s, e1, ⟨e2.1, fun e => (e2.2 e).below hb2 (e2.2 e).lt⟩⟩, f11 := fun x => by obtain ⟨s, e1, e2⟩ := hJ.f11 x; exact ⟨s, e1, ⟨e2.1, fun e => (e2.2 e).below hb2 (e2.2 e).lt⟩⟩, f12 := fun x => by have e := hJ.q12_5 x; rw [hl] at e; exact absurd e (by decide), f13 := fun x => by have e := hJ.q13_5 x; rw [hl] at e; exact absurd e (by decide), q12_5 := fun _ => rfl, q13_5 := fun _ => rfl, w := hJ.w.trans (hb2.mono hJ.w.size) }
    ·
      obtain ⟨s5, rfl, hE5⟩ := hJ.f5 (Az0 (by simp [haf]))
      go_simp
      apply hK; exact { hJ with f6 := fun _ => ⟨s5, rfl, hE5⟩ }
    ·
      obtain ⟨s6, rfl, hE6⟩ := hJ.f6 (Az0 (by simp [haf]))
      go_simp
      apply hK; exact { hJ with f7 := fun _ => ⟨s6, rfl, hE6⟩ }
    ·
      obtain ⟨s6, rfl, hE6⟩ := hJ.f6 (Az0 (by simp [haf]))
      go_simp
      apply hK; exact { hJ with f8 := fun _ => rfl }
    ·
      obtain ⟨s6, rfl, hE6⟩ := hJ.f6 (Az0 (by simp [haf]))
      go_simp
      apply hK; exact { hJ with f9 := fun _ => rfl }
    ·
      go_simp
      apply hK; exact { hJ with f5 := fun x => by obtain ⟨s, e1, e2⟩ := hJ.f5 x; exact ⟨s, e1, fun h => (e2 h).below ((Below.refl _ _).alloc (Nat.le_refl _) _)⟩, f6 := fun x => by obtain ⟨s, e1, e2⟩ := hJ.f6 x; exact ⟨s, e1, fun h => (e2 h).below ((Below.refl _ _).alloc (Nat.le_refl _) _)⟩, f7 := fun x => by obtain ⟨s, e1, e2⟩ := hJ.f7 x; exact ⟨s, e1, fun h => (e2 h).below ((Below.refl _ _).alloc (Nat.le_refl _) _)⟩, f10 := fun _ => ⟨W.heap.size, rfl, hJ.w.size, fun _ => Blk.new _ _ _⟩, f11 := fun x => by obtain ⟨s, e1, e2⟩ := hJ.f11 x; exact ⟨s, e1, ⟨e2.1, fun e => (e2.2 e).alloc _⟩⟩, f12 := fun x => by have e := hJ.q12_10 x; rw [hl] at e; exact absurd e (by decide), f13 := fun x => by have e := hJ.q13_10 x; rw [hl] at e; exact absurd e (by decide), q12_10 := fun _ => rfl, q13_10 := fun _ => rfl, w := hJ.w.alloc hJ.w.size _ }
    ·
      go_simp
      apply hK; exact { hJ with f5 := fun x => by obtain ⟨s, e1, e2⟩ := hJ.f5 x; exact ⟨s, e1, fun h => (e2 h).below ((Below.refl _ _).alloc (Nat.le_refl _) _)⟩, f6 := fun x => by obtain ⟨s, e1, e2⟩ := hJ.f6 x; exact ⟨s, e1, fun h => (e2 h).below ((Below.refl _ _).alloc (Nat.le_refl _) _)⟩, f7 := fun x => by obtain ⟨s, e1, e2⟩ := hJ.f7 x; exact ⟨s, e1, fun h => (e2 h).below ((Below.refl _ _).alloc (Nat.le_refl _) _)⟩, f10 := fun x => by obtain ⟨s, e1, e2⟩ := hJ.f10 x; exact ⟨s, e1, ⟨e2.1, fun e => (e2.2 e).alloc _⟩⟩, f11 := fun _ => ⟨W.heap.size, rfl, hJ.w.size, fun _ => Blk.new _ _ _⟩, f12 := fun x => by have e := hJ.q12_11 x; rw [hl] at e; exact absurd e (by decide), f13 := fun x => by have e := hJ.q13_11 x; rw [hl] at e; exact absurd e (by decide), q12_11 := fun _ => rfl, q13_11 := fun _ => rfl, w := hJ.w.alloc hJ.w.size _ }
    ·
      have p10 : listed.getD 10 true = true := Az0 (by simp [haf])
      have p5 : listed.getD 5 true = true := Az0 (by simp [haf])
      have p11 : listed.getD 11 true = true := Az0 (by simp [haf])
      obtain ⟨s10, rfl, hE10⟩ := hJ.f10 p10
      obtain ⟨s7, rfl, hE7⟩ := hJ.f7 (Az0 (by simp [haf]))
      obtain ⟨s5, rfl, hE5⟩ := hJ.f5 p5
      obtain ⟨s11, rfl, hE11⟩ := hJ.f11 p11
      obtain ⟨hge, hbl⟩ := hE10
      have hbl := hbl hl
      have hlt := hbl.lt
      have fz0 := hbl.frozen 0
      have fz1 := hbl.frozen 1
      have fz2 := hbl.frozen 2
      have fz3 := hbl.frozen 3
      have fz4 := hbl.frozen 4
      have m0 := hbl.cell 0
      have m1 := hbl.cell 1
      have m2 := hbl.cell 2
      have m3 := hbl.cell 3
      have m4 := hbl.cell 4
      simp at m0 m1 m2 m3 m4
      have HL := Lib.hid (lay5K (B := w0.heap.size) hge hbl rfl (.slice s7.a0 ko.mods.length s7.c0) (.slice s7.a1 ko.mem.length s7.c1) (.slice s7.a2 ko.nodes.length s7.c2) (.slice s7.a3 ko.pipes.length s7.c3) (.slice s7.a4 ko.procs.length s7.c4))
      go_simp
      have L := HL.out
      apply hK; exact { hJ with f5 := fun x => by obtain ⟨s, e1, e2⟩ := hJ.f5 x; exact ⟨s, e1, fun h => (e2 h).tch L.2.1 (.inr rfl)⟩, f6 := fun x => by obtain ⟨s, e1, e2⟩ := hJ.f6 x; exact ⟨s, e1, fun h => (e2 h).tch L.2.1 (.inr rfl)⟩, f7 := fun x => by obtain ⟨s, e1, e2⟩ := hJ.f7 x; exact ⟨s, e1, fun h => (e2 h).tch L.2.1 (.inr rfl)⟩, f10 := fun x => by obtain ⟨s, e1, e2⟩ := hJ.f10 x; exact ⟨s, e1, ⟨e2.1, tfR⟩⟩, f11 := fun x => by obtain ⟨s, e1, e2⟩ := hJ.f11 x; exact ⟨s, e1, ⟨e2.1, fun e => (e2.2 e).tch L.2.1 (by decide)⟩⟩, f12 := fun _ => ⟨s10, s7, rfl, hge, L.1, fun h => (hE7 h).tch L.2.1 (.inr rfl)⟩, f13 := fun x => by have e := hJ.q13_12 x; rw [hl] at e; exact absurd e (by decide), q12_5 := fun _ => p5, q12_10 := fun _ => p10, q12_11 := fun _ => p11, q13_12 := fun _ => rfl, w := hJ.w.trans L.2.2 }
    ·
      have p11 : listed.getD 11 true = true := Az0 (by simp [haf])
      have p12 : listed.getD 12 true = true := Az0 (by simp [haf])
      have p5 : listed.getD 5 true = true := Az0 (by simp [haf])
      have p10 : listed.getD 10 true = true := Az0 (by simp [haf])
      obtain ⟨s11, rfl, hE11⟩ := hJ.f11 p11
      obtain rfl := hJ.f8 (Az0 (by simp [haf]))
      obtain ⟨s5, rfl, hE5⟩ := hJ.f5 p5
      obtain ⟨s10, rfl, hE10⟩ := hJ.f10 p10
      obtain ⟨hge, hbl⟩ := hE11
      have hbl := hbl hl
      have hlt := hbl.lt
      have fz0 := hbl.frozen 0
      have fz1 := hbl.frozen 1
      have fz2 := hbl.frozen 2
      have m0 := hbl.cell 0
      have m1 := hbl.cell 1
      have m2 := hbl.cell 2
      simp at m0 m1 m2
      have HL := Lib.hid (lay3A (B := w0.heap.size) hge hbl (.int .i64 rc) (.int .i64 rn) (.string rd))
      go_simp
      have L := HL.out
      apply hK; exact { hJ with f5 := fun x => by obtain ⟨s, e1, e2⟩ := hJ.f5 x; exact ⟨s, e1, fun h => (e2 h).tch L.2.1 (.inl rfl)⟩, f6 := fun x => by obtain ⟨s, e1, e2⟩ := hJ.f6 x; exact ⟨s, e1, fun h => (e2 h).tch L.2.1 (.inl rfl)⟩, f7 := fun x => by obtain ⟨s, e1, e2⟩ := hJ.f7 x; exact ⟨s, e1, fun h => (e2 h).tch L.2.1 (.inl rfl)⟩, f10 := fun x => by obtain ⟨s, e1, e2⟩ := hJ.f10 x; exact ⟨s, e1, ⟨e2.1, fun e => tfR (p12.symm.trans e)⟩⟩, f11 := fun x => by obtain ⟨s, e1, e2⟩ := hJ.f11 x; exact ⟨s, e1, ⟨e2.1, tfR⟩⟩, f12 := fun x => by obtain ⟨q, s, e1, e2, e3, e4⟩ := hJ.f12 x; exact ⟨q, s, e1, e2, e3.tch L.2.1 (by decide), fun h => (e4 h).tch L.2.1 (.inl rfl)⟩, f13 := fun _ => ⟨s11, rfl, hge, L.1⟩, q13_5 := fun _ => p5, q13_10 := fun _ => p10, q13_11 := fun _ => p11, q13_12 := fun _ => p12, w := hJ.w.trans L.2.2 }
    ·
      obtain rfl := hJ.f9 (Az0 (by simp [haf]))
      go_simp
      apply hK; exact { hJ with f14 := fun _ => rfl }
  case fin =>
    intro listed a W hall hI
    obtain ⟨y8, y9, y10, y22, y23, y24, y25, y26, y27, y28, y29, y30, y31, hJ, rfl⟩ := hI
    exact HQ.out listed W _ _ _ _ _ _ _ _ _ _ _ _ _ hall hJ
end Go.Proofs.YtdjamdbamkhblacGreatDoor
