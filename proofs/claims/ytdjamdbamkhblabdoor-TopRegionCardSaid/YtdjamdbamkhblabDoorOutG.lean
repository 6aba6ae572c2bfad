/- A run's outcome in memory. No condition. By an AI agent (xask.py). -/
import Derived.Test.YtdjamdbamkhblabDoorRunD
import Derived.Test.YtdjamdbamkhblabDoorTch
namespace Go.Proofs.YtdjamdbamkhblabDoor
open Go.RowKit
set_option linter.unusedVariables false
set_option linter.unusedSimpArgs false
theorem below_drew1 (w : World) : Below w.heap.size w w.drew := Below.drewN' (Below.refl _ _) 1
/-- What a run hands back, in memory. -/
def RunOut (w0 W : World) (r : Mc × Nat) (T M : Value) : Prop := W.ownsRow w0.heap.size 3 1 T r.1.told.length (natsV r.1.told) ∧ W.ownsRow w0.heap.size 3 1 M r.1.mem.length (natsV r.1.mem)
theorem RunOut.below {w0 W W' : World} {r : Mc × Nat} {T M : Value} (h : RunOut w0 W r T M) (hb : Below W.heap.size W W') : RunOut w0 W' r T M := ⟨own_below h.1 hb, own_below h.2 hb⟩
theorem RunOut.tch {w0 W W' : World} {r : Mc × Nat} {T M : Value} {t : TypeId} (h : RunOut w0 W r T M) (ht : Tch t W W') (hn : 3 ≠ t) : RunOut w0 W' r T M := ⟨own_tch h.1 ht hn, own_tch h.2 ht hn⟩
def outC (en : Nat) (r : List Nat) (T M : Value) : Array Value := #[natV en, natV (r.getD 0 0), natV (r.getD 1 0), natV (r.getD 2 0), natV (r.getD 3 0), natV (r.getD 4 0), natV (r.getD 5 0), natV (r.getD 6 0), natV (r.getD 7 0), T, M]
theorem Tch.tr {t : TypeId} {a b c : World} (h : Tch t a b) (h' : Tch t b c) : Tch t a c :=
  ⟨h'.os.trans h.os, h'.tape.trans h.tape, h'.output.trans h.output, Nat.le_trans h.size h'.size, fun q hq hne => by
    have e := h.block q hq hne
    exact (h'.block q (Nat.lt_of_lt_of_le hq h.size) (by rw [e]; exact hne)).trans e⟩
set_option maxHeartbeats 2000000 in
theorem lay11 {W : World} {B s : Nat} {c0 c1 c2 c3 c4 c5 c6 c7 c8 c9 c10 : Value} (hB : B ≤ s) (h : Blk W s 35 #[c0, c1, c2, c3, c4, c5, c6, c7, c8, c9, c10]) (v0 v1 v2 v3 v4 v5 v6 v7 v8 v9 v10 : Value) :
    Blk (((((((((((W.setCell ⟨s, 0, none⟩ v0).setCell ⟨s, 1, none⟩ v1).setCell ⟨s, 2, none⟩ v2).setCell ⟨s, 3, none⟩ v3).setCell ⟨s, 4, none⟩ v4).setCell ⟨s, 5, none⟩ v5).setCell ⟨s, 6, none⟩ v6).setCell ⟨s, 7, none⟩ v7).setCell ⟨s, 8, none⟩ v8).setCell ⟨s, 9, none⟩ v9).setCell ⟨s, 10, none⟩ v10) s 35 #[v0, v1, v2, v3, v4, v5, v6, v7, v8, v9, v10] ∧ Tch 35 W (((((((((((W.setCell ⟨s, 0, none⟩ v0).setCell ⟨s, 1, none⟩ v1).setCell ⟨s, 2, none⟩ v2).setCell ⟨s, 3, none⟩ v3).setCell ⟨s, 4, none⟩ v4).setCell ⟨s, 5, none⟩ v5).setCell ⟨s, 6, none⟩ v6).setCell ⟨s, 7, none⟩ v7).setCell ⟨s, 8, none⟩ v8).setCell ⟨s, 9, none⟩ v9).setCell ⟨s, 10, none⟩ v10) ∧ Below B W (((((((((((W.setCell ⟨s, 0, none⟩ v0).setCell ⟨s, 1, none⟩ v1).setCell ⟨s, 2, none⟩ v2).setCell ⟨s, 3, none⟩ v3).setCell ⟨s, 4, none⟩ v4).setCell ⟨s, 5, none⟩ v5).setCell ⟨s, 6, none⟩ v6).setCell ⟨s, 7, none⟩ v7).setCell ⟨s, 8, none⟩ v8).setCell ⟨s, 9, none⟩ v9).setCell ⟨s, 10, none⟩ v10) := by
  have h0 : Blk (W.setCell ⟨s, 0, none⟩ v0) s 35 #[v0, c1, c2, c3, c4, c5, c6, c7, c8, c9, c10] := (h).set_ 0 v0
  have t0 : Tch 35 W (W.setCell ⟨s, 0, none⟩ v0) := Tch.of_set (p := ⟨s, 0, none⟩) h v0
  have h1 : Blk ((W.setCell ⟨s, 0, none⟩ v0).setCell ⟨s, 1, none⟩ v1) s 35 #[v0, v1, c2, c3, c4, c5, c6, c7, c8, c9, c10] := (h0).set_ 1 v1
  have t1 : Tch 35 (W.setCell ⟨s, 0, none⟩ v0) ((W.setCell ⟨s, 0, none⟩ v0).setCell ⟨s, 1, none⟩ v1) := Tch.of_set (p := ⟨s, 1, none⟩) h0 v1
  have h2 : Blk (((W.setCell ⟨s, 0, none⟩ v0).setCell ⟨s, 1, none⟩ v1).setCell ⟨s, 2, none⟩ v2) s 35 #[v0, v1, v2, c3, c4, c5, c6, c7, c8, c9, c10] := (h1).set_ 2 v2
  have t2 : Tch 35 ((W.setCell ⟨s, 0, none⟩ v0).setCell ⟨s, 1, none⟩ v1) (((W.setCell ⟨s, 0, none⟩ v0).setCell ⟨s, 1, none⟩ v1).setCell ⟨s, 2, none⟩ v2) := Tch.of_set (p := ⟨s, 2, none⟩) h1 v2
  have h3 : Blk ((((W.setCell ⟨s, 0, none⟩ v0).setCell ⟨s, 1, none⟩ v1).setCell ⟨s, 2, none⟩ v2).setCell ⟨s, 3, none⟩ v3) s 35 #[v0, v1, v2, v3, c4, c5, c6, c7, c8, c9, c10] := (h2).set_ 3 v3
  have t3 : Tch 35 (((W.setCell ⟨s, 0, none⟩ v0).setCell ⟨s, 1, none⟩ v1).setCell ⟨s, 2, none⟩ v2) ((((W.setCell ⟨s, 0, none⟩ v0).setCell ⟨s, 1, none⟩ v1).setCell ⟨s, 2, none⟩ v2).setCell ⟨s, 3, none⟩ v3) := Tch.of_set (p := ⟨s, 3, none⟩) h2 v3
  have h4 : Blk (((((W.setCell ⟨s, 0, none⟩ v0).setCell ⟨s, 1, none⟩ v1).setCell ⟨s, 2, none⟩ v2).setCell ⟨s, 3, none⟩ v3).setCell ⟨s, 4, none⟩ v4) s 35 #[v0, v1, v2, v3, v4, c5, c6, c7, c8, c9, c10] := (h3).set_ 4 v4
  have t4 : Tch 35 ((((W.setCell ⟨s, 0, none⟩ v0).setCell ⟨s, 1, none⟩ v1).setCell ⟨s, 2, none⟩ v2).setCell ⟨s, 3, none⟩ v3) (((((W.setCell ⟨s, 0, none⟩ v0).setCell ⟨s, 1, none⟩ v1).setCell ⟨s, 2, none⟩ v2).setCell ⟨s, 3, none⟩ v3).setCell ⟨s, 4, none⟩ v4) := Tch.of_set (p := ⟨s, 4, none⟩) h3 v4
  have h5 : Blk ((((((W.setCell ⟨s, 0, none⟩ v0).setCell ⟨s, 1, none⟩ v1).setCell ⟨s, 2, none⟩ v2).setCell ⟨s, 3, none⟩ v3).setCell ⟨s, 4, none⟩ v4).setCell ⟨s, 5, none⟩ v5) s 35 #[v0, v1, v2, v3, v4, v5, c6, c7, c8, c9, c10] := (h4).set_ 5 v5
  have t5 : Tch 35 (((((W.setCell ⟨s, 0, none⟩ v0).setCell ⟨s, 1, none⟩ v1).setCell ⟨s, 2, none⟩ v2).setCell ⟨s, 3, none⟩ v3).setCell ⟨s, 4, none⟩ v4) ((((((W.setCell ⟨s, 0, none⟩ v0).setCell ⟨s, 1, none⟩ v1).setCell ⟨s, 2, none⟩ v2).setCell ⟨s, 3, none⟩ v3).setCell ⟨s, 4, none⟩ v4).setCell ⟨s, 5, none⟩ v5) := Tch.of_set (p := ⟨s, 5, none⟩) h4 v5
  have h6 : Blk (((((((W.setCell ⟨s, 0, none⟩ v0).setCell ⟨s, 1, none⟩ v1).setCell ⟨s, 2, none⟩ v2).setCell ⟨s, 3, none⟩ v3).setCell ⟨s, 4, none⟩ v4).setCell ⟨s, 5, none⟩ v5).setCell ⟨s, 6, none⟩ v6) s 35 #[v0, v1, v2, v3, v4, v5, v6, c7, c8, c9, c10] := (h5).set_ 6 v6
  have t6 : Tch 35 ((((((W.setCell ⟨s, 0, none⟩ v0).setCell ⟨s, 1, none⟩ v1).setCell ⟨s, 2, none⟩ v2).setCell ⟨s, 3, none⟩ v3).setCell ⟨s, 4, none⟩ v4).setCell ⟨s, 5, none⟩ v5) (((((((W.setCell ⟨s, 0, none⟩ v0).setCell ⟨s, 1, none⟩ v1).setCell ⟨s, 2, none⟩ v2).setCell ⟨s, 3, none⟩ v3).setCell ⟨s, 4, none⟩ v4).setCell ⟨s, 5, none⟩ v5).setCell ⟨s, 6, none⟩ v6) := Tch.of_set (p := ⟨s, 6, none⟩) h5 v6
  have h7 : Blk ((((((((W.setCell ⟨s, 0, none⟩ v0).setCell ⟨s, 1, none⟩ v1).setCell ⟨s, 2, none⟩ v2).setCell ⟨s, 3, none⟩ v3).setCell ⟨s, 4, none⟩ v4).setCell ⟨s, 5, none⟩ v5).setCell ⟨s, 6, none⟩ v6).setCell ⟨s, 7, none⟩ v7) s 35 #[v0, v1, v2, v3, v4, v5, v6, v7, c8, c9, c10] := (h6).set_ 7 v7
  have t7 : Tch 35 (((((((W.setCell ⟨s, 0, none⟩ v0).setCell ⟨s, 1, none⟩ v1).setCell ⟨s, 2, none⟩ v2).setCell ⟨s, 3, none⟩ v3).setCell ⟨s, 4, none⟩ v4).setCell ⟨s, 5, none⟩ v5).setCell ⟨s, 6, none⟩ v6) ((((((((W.setCell ⟨s, 0, none⟩ v0).setCell ⟨s, 1, none⟩ v1).setCell ⟨s, 2, none⟩ v2).setCell ⟨s, 3, none⟩ v3).setCell ⟨s, 4, none⟩ v4).setCell ⟨s, 5, none⟩ v5).setCell ⟨s, 6, none⟩ v6).setCell ⟨s, 7, none⟩ v7) := Tch.of_set (p := ⟨s, 7, none⟩) h6 v7
  have h8 : Blk (((((((((W.setCell ⟨s, 0, none⟩ v0).setCell ⟨s, 1, none⟩ v1).setCell ⟨s, 2, none⟩ v2).setCell ⟨s, 3, none⟩ v3).setCell ⟨s, 4, none⟩ v4).setCell ⟨s, 5, none⟩ v5).setCell ⟨s, 6, none⟩ v6).setCell ⟨s, 7, none⟩ v7).setCell ⟨s, 8, none⟩ v8) s 35 #[v0, v1, v2, v3, v4, v5, v6, v7, v8, c9, c10] := (h7).set_ 8 v8
  have t8 : Tch 35 ((((((((W.setCell ⟨s, 0, none⟩ v0).setCell ⟨s, 1, none⟩ v1).setCell ⟨s, 2, none⟩ v2).setCell ⟨s, 3, none⟩ v3).setCell ⟨s, 4, none⟩ v4).setCell ⟨s, 5, none⟩ v5).setCell ⟨s, 6, none⟩ v6).setCell ⟨s, 7, none⟩ v7) (((((((((W.setCell ⟨s, 0, none⟩ v0).setCell ⟨s, 1, none⟩ v1).setCell ⟨s, 2, none⟩ v2).setCell ⟨s, 3, none⟩ v3).setCell ⟨s, 4, none⟩ v4).setCell ⟨s, 5, none⟩ v5).setCell ⟨s, 6, none⟩ v6).setCell ⟨s, 7, none⟩ v7).setCell ⟨s, 8, none⟩ v8) := Tch.of_set (p := ⟨s, 8, none⟩) h7 v8
  have h9 : Blk ((((((((((W.setCell ⟨s, 0, none⟩ v0).setCell ⟨s, 1, none⟩ v1).setCell ⟨s, 2, none⟩ v2).setCell ⟨s, 3, none⟩ v3).setCell ⟨s, 4, none⟩ v4).setCell ⟨s, 5, none⟩ v5).setCell ⟨s, 6, none⟩ v6).setCell ⟨s, 7, none⟩ v7).setCell ⟨s, 8, none⟩ v8).setCell ⟨s, 9, none⟩ v9) s 35 #[v0, v1, v2, v3, v4, v5, v6, v7, v8, v9, c10] := (h8).set_ 9 v9
  have t9 : Tch 35 (((((((((W.setCell ⟨s, 0, none⟩ v0).setCell ⟨s, 1, none⟩ v1).setCell ⟨s, 2, none⟩ v2).setCell ⟨s, 3, none⟩ v3).setCell ⟨s, 4, none⟩ v4).setCell ⟨s, 5, none⟩ v5).setCell ⟨s, 6, none⟩ v6).setCell ⟨s, 7, none⟩ v7).setCell ⟨s, 8, none⟩ v8) ((((((((((W.setCell ⟨s, 0, none⟩ v0).setCell ⟨s, 1, none⟩ v1).setCell ⟨s, 2, none⟩ v2).setCell ⟨s, 3, none⟩ v3).setCell ⟨s, 4, none⟩ v4).setCell ⟨s, 5, none⟩ v5).setCell ⟨s, 6, none⟩ v6).setCell ⟨s, 7, none⟩ v7).setCell ⟨s, 8, none⟩ v8).setCell ⟨s, 9, none⟩ v9) := Tch.of_set (p := ⟨s, 9, none⟩) h8 v9
  have h10 : Blk (((((((((((W.setCell ⟨s, 0, none⟩ v0).setCell ⟨s, 1, none⟩ v1).setCell ⟨s, 2, none⟩ v2).setCell ⟨s, 3, none⟩ v3).setCell ⟨s, 4, none⟩ v4).setCell ⟨s, 5, none⟩ v5).setCell ⟨s, 6, none⟩ v6).setCell ⟨s, 7, none⟩ v7).setCell ⟨s, 8, none⟩ v8).setCell ⟨s, 9, none⟩ v9).setCell ⟨s, 10, none⟩ v10) s 35 #[v0, v1, v2, v3, v4, v5, v6, v7, v8, v9, v10] := (h9).set_ 10 v10
  have t10 : Tch 35 ((((((((((W.setCell ⟨s, 0, none⟩ v0).setCell ⟨s, 1, none⟩ v1).setCell ⟨s, 2, none⟩ v2).setCell ⟨s, 3, none⟩ v3).setCell ⟨s, 4, none⟩ v4).setCell ⟨s, 5, none⟩ v5).setCell ⟨s, 6, none⟩ v6).setCell ⟨s, 7, none⟩ v7).setCell ⟨s, 8, none⟩ v8).setCell ⟨s, 9, none⟩ v9) (((((((((((W.setCell ⟨s, 0, none⟩ v0).setCell ⟨s, 1, none⟩ v1).setCell ⟨s, 2, none⟩ v2).setCell ⟨s, 3, none⟩ v3).setCell ⟨s, 4, none⟩ v4).setCell ⟨s, 5, none⟩ v5).setCell ⟨s, 6, none⟩ v6).setCell ⟨s, 7, none⟩ v7).setCell ⟨s, 8, none⟩ v8).setCell ⟨s, 9, none⟩ v9).setCell ⟨s, 10, none⟩ v10) := Tch.of_set (p := ⟨s, 10, none⟩) h9 v10
  refine ⟨h10, t0.tr (t1.tr (t2.tr (t3.tr (t4.tr (t5.tr (t6.tr (t7.tr (t8.tr (t9.tr t10))))))))), ?_⟩
  have b := (Below.refl B W).setCell (p := ⟨s, 0, none⟩) hB v0
  have b := b.setCell (p := ⟨s, 1, none⟩) hB v1
  have b := b.setCell (p := ⟨s, 2, none⟩) hB v2
  have b := b.setCell (p := ⟨s, 3, none⟩) hB v3
  have b := b.setCell (p := ⟨s, 4, none⟩) hB v4
  have b := b.setCell (p := ⟨s, 5, none⟩) hB v5
  have b := b.setCell (p := ⟨s, 6, none⟩) hB v6
  have b := b.setCell (p := ⟨s, 7, none⟩) hB v7
  have b := b.setCell (p := ⟨s, 8, none⟩) hB v8
  have b := b.setCell (p := ⟨s, 9, none⟩) hB v9
  have b := b.setCell (p := ⟨s, 10, none⟩) hB v10
  exact b
end Go.Proofs.YtdjamdbamkhblabDoor
