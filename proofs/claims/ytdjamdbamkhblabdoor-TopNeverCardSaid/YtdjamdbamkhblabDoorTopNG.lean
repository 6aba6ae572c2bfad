/- The drawn region of the law TopNever. No condition. By an AI agent (xtn.py). -/
import Derived.Test.YtdjamdbamkhblabDoorRunD
import Derived.Test.YtdjamdbamkhblabDoorTch
import Derived.Test.YtdjamdbamkhblabDoorInvR
import Derived.Test.YtdjamdbamkhblabDoorInvB
import Derived.Test.YtdjamdbamkhblabDoorCells
namespace Go.Proofs.YtdjamdbamkhblabDoor
open Go.RowKit
set_option linter.unusedVariables false
set_option linter.unusedSimpArgs false
theorem below_drew1 (w : World) : Below w.heap.size w w.drew := Below.drewN' (Below.refl _ _) 1
/-- What a run hands back, in memory. -/
def RunOut (w0 W : World) (r : Mc × Nat) (T M : Value) : Prop := W.ownsRow w0.heap.size 3 1 T r.1.told.length (natsV r.1.told) ∧ W.ownsRow w0.heap.size 3 1 M r.1.mem.length (natsV r.1.mem)
theorem RunOut.below {w0 W W' : World} {r : Mc × Nat} {T M : Value} (h : RunOut w0 W r T M) (hb : Below W.heap.size W W') : RunOut w0 W' r T M := ⟨own_below h.1 hb, own_below h.2 hb⟩
theorem RunOut.tch {w0 W W' : World} {r : Mc × Nat} {T M : Value} {t : TypeId} (h : RunOut w0 W r T M) (ht : Tch t W W') (hn : 3 ≠ t) : RunOut w0 W' r T M := ⟨own_tch h.1 ht hn, own_tch h.2 ht hn⟩
def outC (en : Nat) (r : List Nat) (T M : Value) : Array Value := #[natV en, natV (r.getD 0 0), natV (r.getD 1 0), natV (r.getD 2 0), natV (r.getD 3 0), natV (r.getD 4 0), natV (r.getD 5 0), natV (r.getD 6 0), natV (r.getD 7 0), T, M]
theorem Tch.tr {t : TypeId} {a b c : World} (h : Tch t a b) (h' : Tch t b c) : Tch t a c :=
  ⟨h'.os.trans h.os, h'.tape.trans h.tape, h'.output.trans h.output, Nat.le_trans h.size h'.size, fun q hq hne => by
    have e := h.block q hq hne
    exact (h'.block q (Nat.lt_of_lt_of_le hq h.size) (by rw [e]; exact hne)).trans e⟩
set_option maxHeartbeats 2000000 in
theorem lay11 {W : World} {B s : Nat} {c0 c1 c2 c3 c4 c5 c6 c7 c8 c9 c10 : Value} (hB : B ≤ s) (h : Blk W s 35 #[c0, c1, c2, c3, c4, c5, c6, c7, c8, c9, c10]) (v0 v1 v2 v3 v4 v5 v6 v7 v8 v9 v10 : Value) :
    Blk (((((((((((W.setCell ⟨s, 0, none⟩ v0).setCell ⟨s, 1, none⟩ v1).setCell ⟨s, 2, none⟩ v2).setCell ⟨s, 3, none⟩ v3).setCell ⟨s, 4, none⟩ v4).setCell ⟨s, 5, none⟩ v5).setCell ⟨s, 6, none⟩ v6).setCell ⟨s, 7, none⟩ v7).setCell ⟨s, 8, none⟩ v8).setCell ⟨s, 9, none⟩ v9).setCell ⟨s, 10, none⟩ v10) s 35 #[v0, v1, v2, v3, v4, v5, v6, v7, v8, v9, v10] ∧ Tch 35 W (((((((((((W.setCell ⟨s, 0, none⟩ v0).setCell ⟨s, 1, none⟩ v1).setCell ⟨s, 2, none⟩ v2).setCell ⟨s, 3, none⟩ v3).setCell ⟨s, 4, none⟩ v4).setCell ⟨s, 5, none⟩ v5).setCell ⟨s, 6, none⟩ v6).setCell ⟨s, 7, none⟩ v7).setCell ⟨s, 8, none⟩ v8).setCell ⟨s, 9, none⟩ v9).setCell ⟨s, 10, none⟩ v10) ∧ Below B W (((((((((((W.setCell ⟨s, 0, none⟩ v0).setCell ⟨s, 1, none⟩ v1).setCell ⟨s, 2, none⟩ v2).setCell ⟨s, 3, none⟩ v3).setCell ⟨s, 4, none⟩ v4).setCell ⟨s, 5, none⟩ v5).setCell ⟨s, 6, none⟩ v6).setCell ⟨s, 7, none⟩ v7).setCell ⟨s, 8, none⟩ v8).setCell ⟨s, 9, none⟩ v9).setCell ⟨s, 10, none⟩ v10) := by
  have h0 : Blk (W.setCell ⟨s, 0, none⟩ v0) s 35 #[v0, c1, c2, c3, c4, c5, c6, c7, c8, c9, c10] := (h).set_ 0 v0
  have t0 : Tch 35 W (W.setCell ⟨s, 0, none⟩ v0) := Tch.of_set (p := ⟨s, 0, none⟩) h v0
  have h1 : Blk ((W.setCell ⟨s, 0, none⟩ v0).setCell ⟨s, 1, none⟩ v1) s 35 #[v0, v1, c2, c3, c4, c5, c6, c7, c8, c9, c10] := (h0).set_ 1 v1
  have t1 : Tch 35 (W.setCell ⟨s, 0, none⟩ v0) ((W.setCell ⟨s, 0, none⟩ v0).setCell ⟨s, 1, none⟩ v1) := Tch.of_set (p := ⟨s, 1, none⟩) h0 v1
  have h2 : Blk (((W.setCell ⟨s, 0, none⟩ v0).setCell ⟨s, 1, none⟩ v1).setCell ⟨s, 2, none⟩ v2) s 35 #[v0, v1, v2, c3, c4, c5, c6, c7, c8, c9, c10] := (h1).set_ 2 v2
  have t2 : Tch 35 ((W.setCell ⟨s, 0, none⟩ v0).setCell ⟨s, 1, none⟩ v1) (((W.setCell ⟨s, 0, none⟩ v0).setCell ⟨s, 1, none⟩ v1).setCell ⟨s, 2, none⟩ v2) := Tch.of_set (p := ⟨s, 2, none⟩) h1 v2
  have h3 : Blk ((((W.setCell ⟨s, 0, none⟩ v0).setCell ⟨s, 1, none⟩ v1).setCell ⟨s, 2, none⟩ v2).setCell ⟨s, 3, none⟩ v3) s 35 #[v0, v1, v2, v3, c4, c5, c6, c7, c8, c9, c10] := (h2).set_ 3 v3
  have t3 : Tch 35 (((W.setCell ⟨s, 0, none⟩ v0).setCell ⟨s, 1, none⟩ v1).setCell ⟨s, 2, none⟩ v2) ((((W.setCell ⟨s, 0, none⟩ v0).setCell ⟨s, 1, none⟩ v1).setCell ⟨s, 2, none⟩ v2).setCell ⟨s, 3, none⟩ v3) := Tch.of_set (p := ⟨s, 3, none⟩) h2 v3
  have h4 : Blk (((((W.setCell ⟨s, 0, none⟩ v0).setCell ⟨s, 1, none⟩ v1).setCell ⟨s, 2, none⟩ v2).setCell ⟨s, 3, none⟩ v3).setCell ⟨s, 4, none⟩ v4) s 35 #[v0, v1, v2, v3, v4, c5, c6, c7, c8, c9, c10] := (h3).set_ 4 v4
  have t4 : Tch 35 ((((W.setCell ⟨s, 0, none⟩ v0).setCell ⟨s, 1, none⟩ v1).setCell ⟨s, 2, none⟩ v2).setCell ⟨s, 3, none⟩ v3) (((((W.setCell ⟨s, 0, none⟩ v0).setCell ⟨s, 1, none⟩ v1).setCell ⟨s, 2, none⟩ v2).setCell ⟨s, 3, none⟩ v3).setCell ⟨s, 4, none⟩ v4) := Tch.of_set (p := ⟨s, 4, none⟩) h3 v4
  have h5 : Blk ((((((W.setCell ⟨s, 0, none⟩ v0).setCell ⟨s, 1, none⟩ v1).setCell ⟨s, 2, none⟩ v2).setCell ⟨s, 3, none⟩ v3).setCell ⟨s, 4, none⟩ v4).setCell ⟨s, 5, none⟩ v5) s 35 #[v0, v1, v2, v3, v4, v5, c6, c7, c8, c9, c10] := (h4).set_ 5 v5
  have t5 : Tch 35 (((((W.setCell ⟨s, 0, none⟩ v0).setCell ⟨s, 1, none⟩ v1).setCell ⟨s, 2, none⟩ v2).setCell ⟨s, 3, none⟩ v3).setCell ⟨s, 4, none⟩ v4) ((((((W.setCell ⟨s, 0, none⟩ v0).setCell ⟨s, 1, none⟩ v1).setCell ⟨s, 2, none⟩ v2).setCell ⟨s, 3, none⟩ v3).setCell ⟨s, 4, none⟩ v4).setCell ⟨s, 5, none⟩ v5) := Tch.of_set (p := ⟨s, 5, none⟩) h4 v5
  have h6 : Blk (((((((W.setCell ⟨s, 0, none⟩ v0).setCell ⟨s, 1, none⟩ v1).setCell ⟨s, 2, none⟩ v2).setCell ⟨s, 3, none⟩ v3).setCell ⟨s, 4, none⟩ v4).setCell ⟨s, 5, none⟩ v5).setCell ⟨s, 6, none⟩ v6) s 35 #[v0, v1, v2, v3, v4, v5, v6, c7, c8, c9, c10] := (h5).set_ 6 v6
  have t6 : Tch 35 ((((((W.setCell ⟨s, 0, none⟩ v0).setCell ⟨s, 1, none⟩ v1).setCell ⟨s, 2, none⟩ v2).setCell ⟨s, 3, none⟩ v3).setCell ⟨s, 4, none⟩ v4).setCell ⟨s, 5, none⟩ v5) (((((((W.setCell ⟨s, 0, none⟩ v0).setCell ⟨s, 1, none⟩ v1).setCell ⟨s, 2, none⟩ v2).setCell ⟨s, 3, none⟩ v3).setCell ⟨s, 4, none⟩ v4).setCell ⟨s, 5, none⟩ v5).setCell ⟨s, 6, none⟩ v6) := Tch.of_set (p := ⟨s, 6, none⟩) h5 v6
  have h7 : Blk ((((((((W.setCell ⟨s, 0, none⟩ v0).setCell ⟨s, 1, none⟩ v1).setCell ⟨s, 2, none⟩ v2).setCell ⟨s, 3, none⟩ v3).setCell ⟨s, 4, none⟩ v4).setCell ⟨s, 5, none⟩ v5).setCell ⟨s, 6, none⟩ v6).setCell ⟨s, 7, none⟩ v7) s 35 #[v0, v1, v2, v3, v4, v5, v6, v7, c8, c9, c10] := (h6).set_ 7 v7
  have t7 : Tch 35 (((((((W.setCell ⟨s, 0, none⟩ v0).setCell ⟨s, 1, none⟩ v1).setCell ⟨s, 2, none⟩ v2).setCell ⟨s, 3, none⟩ v3).setCell ⟨s, 4, none⟩ v4).setCell ⟨s, 5, none⟩ v5).setCell ⟨s, 6, none⟩ v6) ((((((((W.setCell ⟨s, 0, none⟩ v0).setCell ⟨s, 1, none⟩ v1).setCell ⟨s, 2, none⟩ v2).setCell ⟨s, 3, none⟩ v3).setCell ⟨s, 4, none⟩ v4).setCell ⟨s, 5, none⟩ v5).setCell ⟨s, 6, none⟩ v6).setCell ⟨s, 7, none⟩ v7) := Tch.of_set (p := ⟨s, 7, none⟩) h6 v7
  have h8 : Blk (((((((((W.setCell ⟨s, 0, none⟩ v0).setCell ⟨s, 1, none⟩ v1).setCell ⟨s, 2, none⟩ v2).setCell ⟨s, 3, none⟩ v3).setCell ⟨s, 4, none⟩ v4).setCell ⟨s, 5, none⟩ v5).setCell ⟨s, 6, none⟩ v6).setCell ⟨s, 7, none⟩ v7).setCell ⟨s, 8, none⟩ v8) s 35 #[v0, v1, v2, v3, v4, v5, v6, v7, v8, c9, c10] := (h7).set_ 8 v8
  have t8 : Tch 35 ((((((((W.setCell ⟨s, 0, none⟩ v0).setCell ⟨s, 1, none⟩ v1).setCell ⟨s, 2, none⟩ v2).setCell ⟨s, 3, none⟩ v3).setCell ⟨s, 4, none⟩ v4).setCell ⟨s, 5, none⟩ v5).setCell ⟨s, 6, none⟩ v6).setCell ⟨s, 7, none⟩ v7) (((((((((W.setCell ⟨s, 0, none⟩ v0).setCell ⟨s, 1, none⟩ v1).setCell ⟨s, 2, none⟩ v2).setCell ⟨s, 3, none⟩ v3).setCell ⟨s, 4, none⟩ v4).setCell ⟨s, 5, none⟩ v5).setCell ⟨s, 6, none⟩ v6).setCell ⟨s, 7, none⟩ v7).setCell ⟨s, 8, none⟩ v8) := Tch.of_set (p := ⟨s, 8, none⟩) h7 v8
  have h9 : Blk ((((((((((W.setCell ⟨s, 0, none⟩ v0).setCell ⟨s, 1, none⟩ v1).setCell ⟨s, 2, none⟩ v2).setCell ⟨s, 3, none⟩ v3).setCell ⟨s, 4, none⟩ v4).setCell ⟨s, 5, none⟩ v5).setCell ⟨s, 6, none⟩ v6).setCell ⟨s, 7, none⟩ v7).setCell ⟨s, 8, none⟩ v8).setCell ⟨s, 9, none⟩ v9) s 35 #[v0, v1, v2, v3, v4, v5, v6, v7, v8, v9, c10] := (h8).set_ 9 v9
  have t9 : Tch 35 (((((((((W.setCell ⟨s, 0, none⟩ v0).setCell ⟨s, 1, none⟩ v1).setCell ⟨s, 2, none⟩ v2).setCell ⟨s, 3, none⟩ v3).setCell ⟨s, 4, none⟩ v4).setCell ⟨s, 5, none⟩ v5).setCell ⟨s, 6, none⟩ v6).setCell ⟨s, 7, none⟩ v7).setCell ⟨s, 8, none⟩ v8) ((((((((((W.setCell ⟨s, 0, none⟩ v0).setCell ⟨s, 1, none⟩ v1).setCell ⟨s, 2, none⟩ v2).setCell ⟨s, 3, none⟩ v3).setCell ⟨s, 4, none⟩ v4).setCell ⟨s, 5, none⟩ v5).setCell ⟨s, 6, none⟩ v6).setCell ⟨s, 7, none⟩ v7).setCell ⟨s, 8, none⟩ v8).setCell ⟨s, 9, none⟩ v9) := Tch.of_set (p := ⟨s, 9, none⟩) h8 v9
  have h10 : Blk (((((((((((W.setCell ⟨s, 0, none⟩ v0).setCell ⟨s, 1, none⟩ v1).setCell ⟨s, 2, none⟩ v2).setCell ⟨s, 3, none⟩ v3).setCell ⟨s, 4, none⟩ v4).setCell ⟨s, 5, none⟩ v5).setCell ⟨s, 6, none⟩ v6).setCell ⟨s, 7, none⟩ v7).setCell ⟨s, 8, none⟩ v8).setCell ⟨s, 9, none⟩ v9).setCell ⟨s, 10, none⟩ v10) s 35 #[v0, v1, v2, v3, v4, v5, v6, v7, v8, v9, v10] := (h9).set_ 10 v10
  have t10 : Tch 35 ((((((((((W.setCell ⟨s, 0, none⟩ v0).setCell ⟨s, 1, none⟩ v1).setCell ⟨s, 2, none⟩ v2).setCell ⟨s, 3, none⟩ v3).setCell ⟨s, 4, none⟩ v4).setCell ⟨s, 5, none⟩ v5).setCell ⟨s, 6, none⟩ v6).setCell ⟨s, 7, none⟩ v7).setCell ⟨s, 8, none⟩ v8).setCell ⟨s, 9, none⟩ v9) (((((((((((W.setCell ⟨s, 0, none⟩ v0).setCell ⟨s, 1, none⟩ v1).setCell ⟨s, 2, none⟩ v2).setCell ⟨s, 3, none⟩ v3).setCell ⟨s, 4, none⟩ v4).setCell ⟨s, 5, none⟩ v5).setCell ⟨s, 6, none⟩ v6).setCell ⟨s, 7, none⟩ v7).setCell ⟨s, 8, none⟩ v8).setCell ⟨s, 9, none⟩ v9).setCell ⟨s, 10, none⟩ v10) := Tch.of_set (p := ⟨s, 10, none⟩) h9 v10
  refine ⟨h10, t0.tr (t1.tr (t2.tr (t3.tr (t4.tr (t5.tr (t6.tr (t7.tr (t8.tr (t9.tr t10))))))))), ?_⟩
  have b := (Below.refl B W).setCell (p := ⟨s, 0, none⟩) hB v0
  have b := b.setCell (p := ⟨s, 1, none⟩) hB v1
  have b := b.setCell (p := ⟨s, 2, none⟩) hB v2
  have b := b.setCell (p := ⟨s, 3, none⟩) hB v3
  have b := b.setCell (p := ⟨s, 4, none⟩) hB v4
  have b := b.setCell (p := ⟨s, 5, none⟩) hB v5
  have b := b.setCell (p := ⟨s, 6, none⟩) hB v6
  have b := b.setCell (p := ⟨s, 7, none⟩) hB v7
  have b := b.setCell (p := ⟨s, 8, none⟩) hB v8
  have b := b.setCell (p := ⟨s, 9, none⟩) hB v9
  have b := b.setCell (p := ⟨s, 10, none⟩) hB v10
  exact b
structure TnJ (w0 : World) (breg b7 : Nat) (e : Int) (k0 k1 k2 k3 : Int) (l : List Ins) (mem : List Int) (Ac : Option Addr) (cc : Nat) (r : Mc × Nat) (err : Int) (listed : Array Bool) (W : World) (y13 y14 y31 y32 y33 y34 y35 y36 y37 y38 : Value) : Prop where
  f0 : listed.getD 0 true = true → y32 = .slice Ac l.length cc
  f1 : listed.getD 1 true = true → y33 = .agg #[.int .i64 5, .int .i64 0, .int .i64 0, .int .i64 0, .int .i64 e, .int .i64 e, .int .i64 63, .int .i64 0]
  f2 : listed.getD 2 true = true → y34 = .agg #[.int .i64 k0, .int .i64 k1, .int .i64 k2, .int .i64 k3]
  f3 : listed.getD 3 true = true → ∃ s : Value, y35 = s ∧ W.ownsRow w0.heap.size 3 1 s mem.length (intCells mem)
  f4 : listed.getD 4 true = true → ∃ s : Value × Value, y36 = .tuple #[(outV r.2 r.1.regs s.1 s.2), .int .i64 err] ∧ RunOut w0 W r s.1 s.2
  f5 : listed.getD 5 true = true → ∃ s : Value × Value, y31 = .tuple #[(outV r.2 r.1.regs s.1 s.2), .int .i64 err] ∧ RunOut w0 W r s.1 s.2
  f6 : listed.getD 6 true = true → ∃ s : Value × Value, y37 = (outV r.2 r.1.regs s.1 s.2) ∧ RunOut w0 W r s.1 s.2
  f7 : listed.getD 7 true = true → y38 = .int .i64 err
  f8 : listed.getD 8 true = true → ∃ s : Nat, y13 = .pointer (some ⟨s, 0, none⟩) ∧ w0.heap.size ≤ s ∧ (listed.getD 9 true = false → Blk W s 35 #[.int .i64 0, .int .i64 0, .int .i64 0, .int .i64 0, .int .i64 0, .int .i64 0, .int .i64 0, .int .i64 0, .int .i64 0, .slice none 0 0, .slice none 0 0])
  f9 : listed.getD 9 true = true → ∃ (s : Nat) (T M : Value), y13 = .pointer (some ⟨s, 0, none⟩) ∧ w0.heap.size ≤ s ∧ Blk W s 35 (outC r.2 r.1.regs T M) ∧ RunOut w0 W r T M
  f10 : listed.getD 10 true = true → y14 = .int .i64 err
  q9_3 : listed.getD 9 true = true → listed.getD 3 true = true
  q9_4 : listed.getD 9 true = true → listed.getD 4 true = true
  q9_8 : listed.getD 9 true = true → listed.getD 8 true = true
  w : Below w0.heap.size w0 W
noncomputable def tnRegC : Code := ((Tryd.f3.body.bind (regAt 5)).getD .skip)
set_option maxRecDepth 1000000 in
set_option maxHeartbeats 8000000 in
theorem tnReg (w0 : World) (breg b7 : Nat) (e : Int) (k0 k1 k2 k3 : Int) (l : List Ins) (mem : List Int) (Ac : Option Addr) (cc : Nat) (r : Mc × Nat) (err : Int) {v0 v1 v2 v3 v4 v5 v6 v8 v10 v12 v13 v14 v15 v16 v17 v18 v19 v20 v21 v22 v23 v24 v25 v26 v27 v28 v29 v30 v31 v32 v33 v34 v35 v36 v37 v38 v39 v40 v41 v42 v43 v44 v45 v46 v47 v48 v49 v50 v51 v52 v53 v54 : Value} (wr : World) (Q : Exit → Act → World → Prop) (hbs : Below w0.heap.size w0 wr.drew) (hreg : ∀ W : World, Below w0.heap.size w0 W → W.cell? ⟨breg, 0, none⟩ = some (.int .i64 5) ∧ W.cell? ⟨breg, 1, none⟩ = some (.int .i64 0) ∧ W.cell? ⟨breg, 2, none⟩ = some (.int .i64 0) ∧ W.cell? ⟨breg, 3, none⟩ = some (.int .i64 0) ∧ W.cell? ⟨breg, 4, none⟩ = some (.int .i64 e) ∧ W.cell? ⟨breg, 5, none⟩ = some (.int .i64 e) ∧ W.cell? ⟨breg, 6, none⟩ = some (.int .i64 63) ∧ W.cell? ⟨breg, 7, none⟩ = some (.int .i64 0)) (hraw : ∀ W : World, Below w0.heap.size w0 W → W.cell? ⟨b7, 0, none⟩ = some (.int .i64 k0) ∧ W.cell? ⟨b7, 1, none⟩ = some (.int .i64 k1) ∧ W.cell? ⟨b7, 2, none⟩ = some (.int .i64 k2) ∧ W.cell? ⟨b7, 3, none⟩ = some (.int .i64 k3)) (hmem : ∀ W : World, Below w0.heap.size w0 W → Calls Tryd.prog 18 #[.agg #[.int .i64 k0, .int .i64 k1, .int .i64 k2, .int .i64 k3], .int .i64 1024] W fun e w' => ∃ V, e = .returned V ∧ w'.ownsRow W.heap.size 3 1 V mem.length (intCells mem) ∧ Below W.heap.size W w') (hcall : ∀ (W : World) (AM : Option Addr) (cM : Nat), Below w0.heap.size w0 W → W.ownsRow w0.heap.size 3 1 (.slice AM mem.length cM) mem.length (intCells mem) → Calls Tryd.prog 17 #[.slice Ac l.length cc, .agg #[.int .i64 5, .int .i64 0, .int .i64 0, .int .i64 0, .int .i64 e, .int .i64 e, .int .i64 63, .int .i64 0], .slice AM mem.length cM, .int .i64 3000] W (RunPost W r err))
    (hQ : ∀ (listed : Array Bool) (W : World) (y13 y14 y31 y32 y33 y34 y35 y36 y37 y38 : Value), (∀ i, i < 11 → listed.getD i true = true) → TnJ w0 breg b7 e k0 k1 k2 k3 l mem Ac cc r err listed W y13 y14 y31 y32 y33 y34 y35 y36 y37 y38 → Q .normal ⟨#[v0, v1, v2, v3, v4, v5, v6, .pointer (some ⟨b7, 0, none⟩), v8, .slice Ac l.length cc, v10, .pointer (some ⟨breg, 0, none⟩), v12, y13, y14, v15, v16, v17, v18, v19, v20, v21, v22, v23, v24, v25, v26, v27, v28, v29, v30, y31, y32, y33, y34, y35, y36, y37, y38, v39, v40, v41, v42, v43, v44, v45, v46, v47, v48, v49, v50, v51, v52, v53, v54], []⟩ W) :
    Code.wp Tryd.prog tnRegC Q ⟨#[v0, v1, v2, v3, v4, v5, v6, .pointer (some ⟨b7, 0, none⟩), v8, .slice Ac l.length cc, v10, .pointer (some ⟨breg, 0, none⟩), v12, v13, v14, v15, v16, v17, v18, v19, v20, v21, v22, v23, v24, v25, v26, v27, v28, v29, v30, v31, v32, v33, v34, v35, v36, v37, v38, v39, v40, v41, v42, v43, v44, v45, v46, v47, v48, v49, v50, v51, v52, v53, v54], []⟩ wr := by
  have HQ := Lib.hid hQ
  clear hQ
  conv => arg 2; whnf
  refine wp_region_invB (fun listed a W => ∃ y13 y14 y31 y32 y33 y34 y35 y36 y37 y38, TnJ w0 breg b7 e k0 k1 k2 k3 l mem Ac cc r err listed W y13 y14 y31 y32 y33 y34 y35 y36 y37 y38 ∧ a = ⟨#[v0, v1, v2, v3, v4, v5, v6, .pointer (some ⟨b7, 0, none⟩), v8, .slice Ac l.length cc, v10, .pointer (some ⟨breg, 0, none⟩), v12, y13, y14, v15, v16, v17, v18, v19, v20, v21, v22, v23, v24, v25, v26, v27, v28, v29, v30, y31, y32, y33, y34, y35, y36, y37, y38, v39, v40, v41, v42, v43, v44, v45, v46, v47, v48, v49, v50, v51, v52, v53, v54], []⟩) (by kernel_rfl) (ord_ofB (by kernel_rfl)) ?start ?step ?fin
  case start => exact ⟨_, _, _, _, _, _, _, _, _, _, ⟨fun h => absurd h (by decide), fun h => absurd h (by decide), fun h => absurd h (by decide), fun h => absurd h (by decide), fun h => absurd h (by decide), fun h => absurd h (by decide), fun h => absurd h (by decide), fun h => absurd h (by decide), fun h => absurd h (by decide), fun h => absurd h (by decide), fun h => absurd h (by decide), fun h => absurd h (by decide), fun h => absurd h (by decide), fun h => absurd h (by decide), hbs⟩, rfl⟩
  case step =>
    intro i o ho listed a W hl haf hI K hK
    obtain ⟨y13, y14, y31, y32, y33, y34, y35, y36, y37, y38, hJ, rfl⟩ := hI
    have hi : i < 11 := (Array.getElem?_eq_some_iff.1 ho).1
    have h16 : i = 0 ∨ i = 1 ∨ i = 2 ∨ i = 3 ∨ i = 4 ∨ i = 5 ∨ i = 6 ∨ i = 7 ∨ i = 8 ∨ i = 9 ∨ i = 10 := by omega
    rcases h16 with rfl | rfl | rfl | rfl | rfl | rfl | rfl | rfl | rfl | rfl | rfl
    · have ho' := Option.some.inj ho
      subst ho'
      have HJ := Lib.hid hJ
      clear hJ haf
      try unfold pt
      go_simp
      have hJ := HJ.out
      exact hK _ _ ⟨_, _, _, _, _, _, _, _, _, _, ⟨fun _ => rfl, fun x => hJ.f1 (upneR (by decide) x), fun x => hJ.f2 (upneR (by decide) x), fun x => hJ.f3 (upneR (by decide) x), fun x => hJ.f4 (upneR (by decide) x), fun x => hJ.f5 (upneR (by decide) x), fun x => hJ.f6 (upneR (by decide) x), fun x => hJ.f7 (upneR (by decide) x), fun x => by obtain ⟨s, e1, e2⟩ := hJ.f8 (upneR (by decide) x); exact ⟨s, e1, ⟨e2.1, fun e => e2.2 (by rw [upeqR (by decide)] at e; exact e)⟩⟩, fun x => hJ.f9 (upneR (by decide) x), fun x => hJ.f10 (upneR (by decide) x), fun x => by rw [upeqR (by decide)]; exact hJ.q9_3 (upneR (by decide) x), fun x => by rw [upeqR (by decide)]; exact hJ.q9_4 (upneR (by decide) x), fun x => by rw [upeqR (by decide)]; exact hJ.q9_8 (upneR (by decide) x), hJ.w⟩, rfl⟩
    · have ho' := Option.some.inj ho
      subst ho'
      obtain ⟨q0, q1, q2, q3, q4, q5, q6, q7⟩ := hreg W hJ.w
      have HJ := Lib.hid hJ
      clear hJ haf
      try unfold pt
      go_simp
      have hJ := HJ.out
      exact hK _ _ ⟨_, _, _, _, _, _, _, _, _, _, ⟨fun x => hJ.f0 (upneR (by decide) x), fun _ => rfl, fun x => hJ.f2 (upneR (by decide) x), fun x => hJ.f3 (upneR (by decide) x), fun x => hJ.f4 (upneR (by decide) x), fun x => hJ.f5 (upneR (by decide) x), fun x => hJ.f6 (upneR (by decide) x), fun x => hJ.f7 (upneR (by decide) x), fun x => by obtain ⟨s, e1, e2⟩ := hJ.f8 (upneR (by decide) x); exact ⟨s, e1, ⟨e2.1, fun e => e2.2 (by rw [upeqR (by decide)] at e; exact e)⟩⟩, fun x => hJ.f9 (upneR (by decide) x), fun x => hJ.f10 (upneR (by decide) x), fun x => by rw [upeqR (by decide)]; exact hJ.q9_3 (upneR (by decide) x), fun x => by rw [upeqR (by decide)]; exact hJ.q9_4 (upneR (by decide) x), fun x => by rw [upeqR (by decide)]; exact hJ.q9_8 (upneR (by decide) x), hJ.w⟩, rfl⟩
    · have ho' := Option.some.inj ho
      subst ho'
      obtain ⟨q0, q1, q2, q3⟩ := hraw W hJ.w
      have HJ := Lib.hid hJ
      clear hJ haf
      try unfold pt
      go_simp
      have hJ := HJ.out
      exact hK _ _ ⟨_, _, _, _, _, _, _, _, _, _, ⟨fun x => hJ.f0 (upneR (by decide) x), fun x => hJ.f1 (upneR (by decide) x), fun _ => rfl, fun x => hJ.f3 (upneR (by decide) x), fun x => hJ.f4 (upneR (by decide) x), fun x => hJ.f5 (upneR (by decide) x), fun x => hJ.f6 (upneR (by decide) x), fun x => hJ.f7 (upneR (by decide) x), fun x => by obtain ⟨s, e1, e2⟩ := hJ.f8 (upneR (by decide) x); exact ⟨s, e1, ⟨e2.1, fun e => e2.2 (by rw [upeqR (by decide)] at e; exact e)⟩⟩, fun x => hJ.f9 (upneR (by decide) x), fun x => hJ.f10 (upneR (by decide) x), fun x => by rw [upeqR (by decide)]; exact hJ.q9_3 (upneR (by decide) x), fun x => by rw [upeqR (by decide)]; exact hJ.q9_4 (upneR (by decide) x), fun x => by rw [upeqR (by decide)]; exact hJ.q9_8 (upneR (by decide) x), hJ.w⟩, rfl⟩
    · have ho' := Option.some.inj ho
      subst ho'
      simp [Region.binds] at haf
      have p2 : listed.getD 2 true = true := waitsR (by simp [haf])
      obtain rfl := hJ.f2 p2
      have hc := hmem W hJ.w
      have HJ := Lib.hid hJ
      clear hJ haf
      try unfold pt
      go_simp
      go_at_call 18
      refine hc.mono ?_
      rintro e' w2 ⟨V, rfl, hV, hb2⟩
      have hJ := HJ.out
      exact hK _ _ ⟨_, _, _, _, _, _, _, _, _, _, ⟨fun x => hJ.f0 (upneR (by decide) x), fun x => hJ.f1 (upneR (by decide) x), fun x => hJ.f2 (upneR (by decide) x), fun _ => ⟨V, rfl, own_base hV hJ.w.size⟩, fun x => by obtain ⟨s, e1, e2⟩ := hJ.f4 (upneR (by decide) x); exact ⟨s, e1, RunOut.below e2 hb2⟩, fun x => by obtain ⟨s, e1, e2⟩ := hJ.f5 (upneR (by decide) x); exact ⟨s, e1, RunOut.below e2 hb2⟩, fun x => by obtain ⟨s, e1, e2⟩ := hJ.f6 (upneR (by decide) x); exact ⟨s, e1, RunOut.below e2 hb2⟩, fun x => hJ.f7 (upneR (by decide) x), fun x => by obtain ⟨s, e1, e2⟩ := hJ.f8 (upneR (by decide) x); exact ⟨s, e1, ⟨e2.1, fun e => (e2.2 (by rw [upeqR (by decide)] at e; exact e)).below hb2 (e2.2 (by rw [upeqR (by decide)] at e; exact e)).lt⟩⟩, fun x => by have e := hJ.q9_3 (upneR (by decide) x); rw [hl] at e; exact absurd e (by decide), fun x => hJ.f10 (upneR (by decide) x), fun _ => upselfR, fun x => by rw [upeqR (by decide)]; exact hJ.q9_4 (upneR (by decide) x), fun x => by rw [upeqR (by decide)]; exact hJ.q9_8 (upneR (by decide) x), hJ.w.trans (hb2.mono hJ.w.size)⟩, rfl⟩
    · have ho' := Option.some.inj ho
      subst ho'
      simp [Region.binds] at haf
      have p0 : listed.getD 0 true = true := waitsR (by simp [haf])
      have p1 : listed.getD 1 true = true := waitsR (by simp [haf])
      have p3 : listed.getD 3 true = true := waitsR (by simp [haf])
      obtain rfl := hJ.f0 p0
      obtain rfl := hJ.f1 p1
      obtain ⟨s3, rfl, hE3⟩ := hJ.f3 p3
      obtain ⟨AM, cM, rfl⟩ := own_slice hE3
      have hc := hcall W AM cM hJ.w hE3
      have HJ := Lib.hid hJ
      clear hJ haf
      try unfold pt
      go_simp
      go_at_call 17
      refine hc.mono ?_
      rintro e' w2 ⟨T, M, rfl, hT, hM, hb2⟩
      have hJ := HJ.out
      exact hK _ _ ⟨_, _, _, _, _, _, _, _, _, _, ⟨fun x => hJ.f0 (upneR (by decide) x), fun x => hJ.f1 (upneR (by decide) x), fun x => hJ.f2 (upneR (by decide) x), fun x => by obtain ⟨s, e1, e2⟩ := hJ.f3 (upneR (by decide) x); exact ⟨s, e1, own_below e2 hb2⟩, fun _ => ⟨(T, M), rfl, own_base hT hJ.w.size, own_base hM hJ.w.size⟩, fun x => by obtain ⟨s, e1, e2⟩ := hJ.f5 (upneR (by decide) x); exact ⟨s, e1, RunOut.below e2 hb2⟩, fun x => by obtain ⟨s, e1, e2⟩ := hJ.f6 (upneR (by decide) x); exact ⟨s, e1, RunOut.below e2 hb2⟩, fun x => hJ.f7 (upneR (by decide) x), fun x => by obtain ⟨s, e1, e2⟩ := hJ.f8 (upneR (by decide) x); exact ⟨s, e1, ⟨e2.1, fun e => (e2.2 (by rw [upeqR (by decide)] at e; exact e)).below hb2 (e2.2 (by rw [upeqR (by decide)] at e; exact e)).lt⟩⟩, fun x => by have e := hJ.q9_4 (upneR (by decide) x); rw [hl] at e; exact absurd e (by decide), fun x => hJ.f10 (upneR (by decide) x), fun x => by rw [upeqR (by decide)]; exact hJ.q9_3 (upneR (by decide) x), fun _ => upselfR, fun x => by rw [upeqR (by decide)]; exact hJ.q9_8 (upneR (by decide) x), hJ.w.trans (hb2.mono hJ.w.size)⟩, rfl⟩
    · have ho' := Option.some.inj ho
      subst ho'
      simp [Region.binds] at haf
      have p4 : listed.getD 4 true = true := waitsR (by simp [haf])
      obtain ⟨s4, rfl, hE4⟩ := hJ.f4 p4
      have HJ := Lib.hid hJ
      clear hJ haf
      try unfold pt
      go_simp
      have hJ := HJ.out
      exact hK _ _ ⟨_, _, _, _, _, _, _, _, _, _, ⟨fun x => hJ.f0 (upneR (by decide) x), fun x => hJ.f1 (upneR (by decide) x), fun x => hJ.f2 (upneR (by decide) x), fun x => hJ.f3 (upneR (by decide) x), fun x => hJ.f4 (upneR (by decide) x), fun _ => ⟨s4, rfl, hE4⟩, fun x => hJ.f6 (upneR (by decide) x), fun x => hJ.f7 (upneR (by decide) x), fun x => by obtain ⟨s, e1, e2⟩ := hJ.f8 (upneR (by decide) x); exact ⟨s, e1, ⟨e2.1, fun e => e2.2 (by rw [upeqR (by decide)] at e; exact e)⟩⟩, fun x => hJ.f9 (upneR (by decide) x), fun x => hJ.f10 (upneR (by decide) x), fun x => by rw [upeqR (by decide)]; exact hJ.q9_3 (upneR (by decide) x), fun x => by rw [upeqR (by decide)]; exact hJ.q9_4 (upneR (by decide) x), fun x => by rw [upeqR (by decide)]; exact hJ.q9_8 (upneR (by decide) x), hJ.w⟩, rfl⟩
    · have ho' := Option.some.inj ho
      subst ho'
      simp [Region.binds] at haf
      have p5 : listed.getD 5 true = true := waitsR (by simp [haf])
      obtain ⟨s5, rfl, hE5⟩ := hJ.f5 p5
      have HJ := Lib.hid hJ
      clear hJ haf
      try unfold pt
      go_simp
      have hJ := HJ.out
      exact hK _ _ ⟨_, _, _, _, _, _, _, _, _, _, ⟨fun x => hJ.f0 (upneR (by decide) x), fun x => hJ.f1 (upneR (by decide) x), fun x => hJ.f2 (upneR (by decide) x), fun x => hJ.f3 (upneR (by decide) x), fun x => hJ.f4 (upneR (by decide) x), fun x => hJ.f5 (upneR (by decide) x), fun _ => ⟨s5, rfl, hE5⟩, fun x => hJ.f7 (upneR (by decide) x), fun x => by obtain ⟨s, e1, e2⟩ := hJ.f8 (upneR (by decide) x); exact ⟨s, e1, ⟨e2.1, fun e => e2.2 (by rw [upeqR (by decide)] at e; exact e)⟩⟩, fun x => hJ.f9 (upneR (by decide) x), fun x => hJ.f10 (upneR (by decide) x), fun x => by rw [upeqR (by decide)]; exact hJ.q9_3 (upneR (by decide) x), fun x => by rw [upeqR (by decide)]; exact hJ.q9_4 (upneR (by decide) x), fun x => by rw [upeqR (by decide)]; exact hJ.q9_8 (upneR (by decide) x), hJ.w⟩, rfl⟩
    · have ho' := Option.some.inj ho
      subst ho'
      simp [Region.binds] at haf
      have p5 : listed.getD 5 true = true := waitsR (by simp [haf])
      obtain ⟨s5, rfl, hE5⟩ := hJ.f5 p5
      have HJ := Lib.hid hJ
      clear hJ haf
      try unfold pt
      go_simp
      have hJ := HJ.out
      exact hK _ _ ⟨_, _, _, _, _, _, _, _, _, _, ⟨fun x => hJ.f0 (upneR (by decide) x), fun x => hJ.f1 (upneR (by decide) x), fun x => hJ.f2 (upneR (by decide) x), fun x => hJ.f3 (upneR (by decide) x), fun x => hJ.f4 (upneR (by decide) x), fun x => hJ.f5 (upneR (by decide) x), fun x => hJ.f6 (upneR (by decide) x), fun _ => rfl, fun x => by obtain ⟨s, e1, e2⟩ := hJ.f8 (upneR (by decide) x); exact ⟨s, e1, ⟨e2.1, fun e => e2.2 (by rw [upeqR (by decide)] at e; exact e)⟩⟩, fun x => hJ.f9 (upneR (by decide) x), fun x => hJ.f10 (upneR (by decide) x), fun x => by rw [upeqR (by decide)]; exact hJ.q9_3 (upneR (by decide) x), fun x => by rw [upeqR (by decide)]; exact hJ.q9_4 (upneR (by decide) x), fun x => by rw [upeqR (by decide)]; exact hJ.q9_8 (upneR (by decide) x), hJ.w⟩, rfl⟩
    · have ho' := Option.some.inj ho
      subst ho'
      have HJ := Lib.hid hJ
      clear hJ haf
      try unfold pt
      go_simp
      have hJ := HJ.out
      exact hK _ _ ⟨_, _, _, _, _, _, _, _, _, _, ⟨fun x => hJ.f0 (upneR (by decide) x), fun x => hJ.f1 (upneR (by decide) x), fun x => hJ.f2 (upneR (by decide) x), fun x => by obtain ⟨s, e1, e2⟩ := hJ.f3 (upneR (by decide) x); exact ⟨s, e1, own_below e2 ((Below.refl _ _).alloc (Nat.le_refl _) _)⟩, fun x => by obtain ⟨s, e1, e2⟩ := hJ.f4 (upneR (by decide) x); exact ⟨s, e1, RunOut.below e2 ((Below.refl _ _).alloc (Nat.le_refl _) _)⟩, fun x => by obtain ⟨s, e1, e2⟩ := hJ.f5 (upneR (by decide) x); exact ⟨s, e1, RunOut.below e2 ((Below.refl _ _).alloc (Nat.le_refl _) _)⟩, fun x => by obtain ⟨s, e1, e2⟩ := hJ.f6 (upneR (by decide) x); exact ⟨s, e1, RunOut.below e2 ((Below.refl _ _).alloc (Nat.le_refl _) _)⟩, fun x => hJ.f7 (upneR (by decide) x), fun _ => ⟨W.heap.size, rfl, hJ.w.size, fun _ => Blk.new _ _ _⟩, fun x => by have e := hJ.q9_8 (upneR (by decide) x); rw [hl] at e; exact absurd e (by decide), fun x => hJ.f10 (upneR (by decide) x), fun x => by rw [upeqR (by decide)]; exact hJ.q9_3 (upneR (by decide) x), fun x => by rw [upeqR (by decide)]; exact hJ.q9_4 (upneR (by decide) x), fun _ => upselfR, hJ.w.alloc hJ.w.size _⟩, rfl⟩
    · have ho' := Option.some.inj ho
      subst ho'
      simp [Region.binds] at haf
      have p8 : listed.getD 8 true = true := waitsR (by simp [haf])
      have p6 : listed.getD 6 true = true := waitsR (by simp [haf])
      have p4 : listed.getD 4 true = true := waitsR (by simp [haf])
      have p3 : listed.getD 3 true = true := waitsR (by simp [haf])
      obtain ⟨s8, rfl, hE8⟩ := hJ.f8 p8
      obtain ⟨s6, rfl, hE6⟩ := hJ.f6 p6
      obtain ⟨s4, rfl, hE4⟩ := hJ.f4 p4
      obtain ⟨s3, rfl, hE3⟩ := hJ.f3 p3
      obtain ⟨hge, hbl⟩ := hE8
      have hbl := hbl hl
      have hlt := hbl.lt
      have fz0 := hbl.frozen 0
      have fz1 := hbl.frozen 1
      have fz2 := hbl.frozen 2
      have fz3 := hbl.frozen 3
      have fz4 := hbl.frozen 4
      have fz5 := hbl.frozen 5
      have fz6 := hbl.frozen 6
      have fz7 := hbl.frozen 7
      have fz8 := hbl.frozen 8
      have fz9 := hbl.frozen 9
      have fz10 := hbl.frozen 10
      have m0 := hbl.cell 0
      have m1 := hbl.cell 1
      have m2 := hbl.cell 2
      have m3 := hbl.cell 3
      have m4 := hbl.cell 4
      have m5 := hbl.cell 5
      have m6 := hbl.cell 6
      have m7 := hbl.cell 7
      have m8 := hbl.cell 8
      have m9 := hbl.cell 9
      have m10 := hbl.cell 10
      simp at m0 m1 m2 m3 m4 m5 m6 m7 m8 m9 m10
      obtain ⟨T, M⟩ := s6
      have hET : W.ownsRow w0.heap.size 3 1 T r.1.told.length (natsV r.1.told) := hE6.1
      have hEM : W.ownsRow w0.heap.size 3 1 M r.1.mem.length (natsV r.1.mem) := hE6.2
      obtain ⟨AT, cT, rfl⟩ := own_slice hET
      obtain ⟨AM, cM, rfl⟩ := own_slice hEM
      have HL := Lib.hid (lay11 (B := w0.heap.size) hge hbl (natV r.2) (natV (r.1.regs.getD 0 0)) (natV (r.1.regs.getD 1 0)) (natV (r.1.regs.getD 2 0)) (natV (r.1.regs.getD 3 0)) (natV (r.1.regs.getD 4 0)) (natV (r.1.regs.getD 5 0)) (natV (r.1.regs.getD 6 0)) (natV (r.1.regs.getD 7 0)) (.slice AT r.1.told.length cT) (.slice AM r.1.mem.length cM))
      unfold outV natV
      have HJ := Lib.hid hJ
      clear hJ haf
      try unfold pt
      go_simp
      have hJ := HJ.out
      have L := HL.out
      exact hK _ _ ⟨_, _, _, _, _, _, _, _, _, _, ⟨fun x => hJ.f0 (upneR (by decide) x), fun x => hJ.f1 (upneR (by decide) x), fun x => hJ.f2 (upneR (by decide) x), fun x => by obtain ⟨s, e1, e2⟩ := hJ.f3 (upneR (by decide) x); exact ⟨s, e1, own_tch e2 L.2.1 (by decide)⟩, fun x => by obtain ⟨s, e1, e2⟩ := hJ.f4 (upneR (by decide) x); exact ⟨s, e1, RunOut.tch e2 L.2.1 (by decide)⟩, fun x => by obtain ⟨s, e1, e2⟩ := hJ.f5 (upneR (by decide) x); exact ⟨s, e1, RunOut.tch e2 L.2.1 (by decide)⟩, fun x => by obtain ⟨s, e1, e2⟩ := hJ.f6 (upneR (by decide) x); exact ⟨s, e1, RunOut.tch e2 L.2.1 (by decide)⟩, fun x => hJ.f7 (upneR (by decide) x), fun x => by obtain ⟨s, e1, e2⟩ := hJ.f8 (upneR (by decide) x); exact ⟨s, e1, ⟨e2.1, fun e => absurd e (by rw [upselfR]; decide)⟩⟩, fun _ => ⟨s8, _, _, rfl, hge, L.1, RunOut.tch (T := .slice AT r.1.told.length cT) (M := .slice AM r.1.mem.length cM) ⟨hET, hEM⟩ L.2.1 (by decide)⟩, fun x => hJ.f10 (upneR (by decide) x), fun _ => by rw [upeqR (by decide)]; exact p3, fun _ => by rw [upeqR (by decide)]; exact p4, fun _ => by rw [upeqR (by decide)]; exact p8, hJ.w.trans L.2.2⟩, rfl⟩
    · have ho' := Option.some.inj ho
      subst ho'
      simp [Region.binds] at haf
      have p7 : listed.getD 7 true = true := waitsR (by simp [haf])
      have p9 : listed.getD 9 true = true := waitsR (by simp [haf])
      obtain rfl := hJ.f7 p7
      have HJ := Lib.hid hJ
      clear hJ haf
      try unfold pt
      go_simp
      have hJ := HJ.out
      exact hK _ _ ⟨_, _, _, _, _, _, _, _, _, _, ⟨fun x => hJ.f0 (upneR (by decide) x), fun x => hJ.f1 (upneR (by decide) x), fun x => hJ.f2 (upneR (by decide) x), fun x => hJ.f3 (upneR (by decide) x), fun x => hJ.f4 (upneR (by decide) x), fun x => hJ.f5 (upneR (by decide) x), fun x => hJ.f6 (upneR (by decide) x), fun x => hJ.f7 (upneR (by decide) x), fun x => by obtain ⟨s, e1, e2⟩ := hJ.f8 (upneR (by decide) x); exact ⟨s, e1, ⟨e2.1, fun e => e2.2 (by rw [upeqR (by decide)] at e; exact e)⟩⟩, fun x => hJ.f9 (upneR (by decide) x), fun _ => rfl, fun x => by rw [upeqR (by decide)]; exact hJ.q9_3 (upneR (by decide) x), fun x => by rw [upeqR (by decide)]; exact hJ.q9_4 (upneR (by decide) x), fun x => by rw [upeqR (by decide)]; exact hJ.q9_8 (upneR (by decide) x), hJ.w⟩, rfl⟩
  case fin =>
    intro listed a W hall hI
    obtain ⟨y13, y14, y31, y32, y33, y34, y35, y36, y37, y38, hJ, rfl⟩ := hI
    exact HQ.out listed W _ _ _ _ _ _ _ _ _ _ hall hJ
end Go.Proofs.YtdjamdbamkhblabDoor
