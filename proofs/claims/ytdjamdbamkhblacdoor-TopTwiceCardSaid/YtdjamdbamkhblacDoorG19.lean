/- A run's outcome in memory. No condition. By an AI agent (xask.py). The walk of the kernel's by: fork, exit. No condition. By an AI agent (xby.py). -/
import Derived.Test.YtdjamdbamkhblacDoorG18
import Derived.Test.YtdjamdbamkhblacDoorG04
import Derived.Test.YtdjamdbamkhblacDoorG17
namespace Go.Proofs.YtdjamdbamkhblacDoor
open Go.RowKit
set_option linter.unusedVariables false
set_option linter.unusedSimpArgs false
theorem below_drew1 (w : World) : Below w.heap.size w w.drew := Below.drewN' (Below.refl _ _) 1
def RunOut (w0 W : World) (r : Mc × Nat) (T M : Value) : Prop := W.ownsRow w0.heap.size 3 1 T r.1.told.length (natsV r.1.told) ∧ W.ownsRow w0.heap.size 3 1 M r.1.mem.length (natsV r.1.mem)
theorem RunOut.below {w0 W W' : World} {r : Mc × Nat} {T M : Value} (h : RunOut w0 W r T M) (hb : Below W.heap.size W W') : RunOut w0 W' r T M := ⟨own_below h.1 hb, own_below h.2 hb⟩
theorem RunOut.tch {w0 W W' : World} {r : Mc × Nat} {T M : Value} {t : TypeId} (h : RunOut w0 W r T M) (ht : Tch t W W') (hn : 3 ≠ t) : RunOut w0 W' r T M := ⟨own_tch h.1 ht hn, own_tch h.2 ht hn⟩
def outC (en : Nat) (r : List Nat) (T M : Value) : Array Value := #[natV en, natV (r.getD 0 0), natV (r.getD 1 0), natV (r.getD 2 0), natV (r.getD 3 0), natV (r.getD 4 0), natV (r.getD 5 0), natV (r.getD 6 0), natV (r.getD 7 0), T, M]
theorem Tch.tr {t : TypeId} {a b c : World} (h : Tch t a b) (h' : Tch t b c) : Tch t a c :=
 ⟨h'.os.trans h.os, h'.tape.trans h.tape, h'.output.trans h.output, Nat.le_trans h.size h'.size, fun q hq hne => by
   have e := h.block q hq hne
   exact (h'.block q (Nat.lt_of_lt_of_le hq h.size) (by rw [e]; exact hne)).trans e⟩
set_option maxHeartbeats 2000000 in
theorem lay11 {W : World} {B s : Nat} {c0 c1 c2 c3 c4 c5 c6 c7 c8 c9 c10 : Value} (hB : B ≤ s) (h : Blk W s 208 #[c0, c1, c2, c3, c4, c5, c6, c7, c8, c9, c10]) (v0 v1 v2 v3 v4 v5 v6 v7 v8 v9 v10 : Value) :
  Blk (((((((((((W.setCell ⟨s, 0, none⟩ v0).setCell ⟨s, 1, none⟩ v1).setCell ⟨s, 2, none⟩ v2).setCell ⟨s, 3, none⟩ v3).setCell ⟨s, 4, none⟩ v4).setCell ⟨s, 5, none⟩ v5).setCell ⟨s, 6, none⟩ v6).setCell ⟨s, 7, none⟩ v7).setCell ⟨s, 8, none⟩ v8).setCell ⟨s, 9, none⟩ v9).setCell ⟨s, 10, none⟩ v10) s 208 #[v0, v1, v2, v3, v4, v5, v6, v7, v8, v9, v10] ∧ Tch 208 W (((((((((((W.setCell ⟨s, 0, none⟩ v0).setCell ⟨s, 1, none⟩ v1).setCell ⟨s, 2, none⟩ v2).setCell ⟨s, 3, none⟩ v3).setCell ⟨s, 4, none⟩ v4).setCell ⟨s, 5, none⟩ v5).setCell ⟨s, 6, none⟩ v6).setCell ⟨s, 7, none⟩ v7).setCell ⟨s, 8, none⟩ v8).setCell ⟨s, 9, none⟩ v9).setCell ⟨s, 10, none⟩ v10) ∧ Below B W (((((((((((W.setCell ⟨s, 0, none⟩ v0).setCell ⟨s, 1, none⟩ v1).setCell ⟨s, 2, none⟩ v2).setCell ⟨s, 3, none⟩ v3).setCell ⟨s, 4, none⟩ v4).setCell ⟨s, 5, none⟩ v5).setCell ⟨s, 6, none⟩ v6).setCell ⟨s, 7, none⟩ v7).setCell ⟨s, 8, none⟩ v8).setCell ⟨s, 9, none⟩ v9).setCell ⟨s, 10, none⟩ v10) := by
 have h0 : Blk (W.setCell ⟨s, 0, none⟩ v0) s 208 #[v0, c1, c2, c3, c4, c5, c6, c7, c8, c9, c10] := (h).set_ 0 v0
 have t0 : Tch 208 W (W.setCell ⟨s, 0, none⟩ v0) := Tch.of_set (p := ⟨s, 0, none⟩) h v0
 have h1 : Blk ((W.setCell ⟨s, 0, none⟩ v0).setCell ⟨s, 1, none⟩ v1) s 208 #[v0, v1, c2, c3, c4, c5, c6, c7, c8, c9, c10] := (h0).set_ 1 v1
 have t1 : Tch 208 (W.setCell ⟨s, 0, none⟩ v0) ((W.setCell ⟨s, 0, none⟩ v0).setCell ⟨s, 1, none⟩ v1) := Tch.of_set (p := ⟨s, 1, none⟩) h0 v1
 have h2 : Blk (((W.setCell ⟨s, 0, none⟩ v0).setCell ⟨s, 1, none⟩ v1).setCell ⟨s, 2, none⟩ v2) s 208 #[v0, v1, v2, c3, c4, c5, c6, c7, c8, c9, c10] := (h1).set_ 2 v2
 have t2 : Tch 208 ((W.setCell ⟨s, 0, none⟩ v0).setCell ⟨s, 1, none⟩ v1) (((W.setCell ⟨s, 0, none⟩ v0).setCell ⟨s, 1, none⟩ v1).setCell ⟨s, 2, none⟩ v2) := Tch.of_set (p := ⟨s, 2, none⟩) h1 v2
 have h3 : Blk ((((W.setCell ⟨s, 0, none⟩ v0).setCell ⟨s, 1, none⟩ v1).setCell ⟨s, 2, none⟩ v2).setCell ⟨s, 3, none⟩ v3) s 208 #[v0, v1, v2, v3, c4, c5, c6, c7, c8, c9, c10] := (h2).set_ 3 v3
 have t3 : Tch 208 (((W.setCell ⟨s, 0, none⟩ v0).setCell ⟨s, 1, none⟩ v1).setCell ⟨s, 2, none⟩ v2) ((((W.setCell ⟨s, 0, none⟩ v0).setCell ⟨s, 1, none⟩ v1).setCell ⟨s, 2, none⟩ v2).setCell ⟨s, 3, none⟩ v3) := Tch.of_set (p := ⟨s, 3, none⟩) h2 v3
 have h4 : Blk (((((W.setCell ⟨s, 0, none⟩ v0).setCell ⟨s, 1, none⟩ v1).setCell ⟨s, 2, none⟩ v2).setCell ⟨s, 3, none⟩ v3).setCell ⟨s, 4, none⟩ v4) s 208 #[v0, v1, v2, v3, v4, c5, c6, c7, c8, c9, c10] := (h3).set_ 4 v4
 have t4 : Tch 208 ((((W.setCell ⟨s, 0, none⟩ v0).setCell ⟨s, 1, none⟩ v1).setCell ⟨s, 2, none⟩ v2).setCell ⟨s, 3, none⟩ v3) (((((W.setCell ⟨s, 0, none⟩ v0).setCell ⟨s, 1, none⟩ v1).setCell ⟨s, 2, none⟩ v2).setCell ⟨s, 3, none⟩ v3).setCell ⟨s, 4, none⟩ v4) := Tch.of_set (p := ⟨s, 4, none⟩) h3 v4
 have h5 : Blk ((((((W.setCell ⟨s, 0, none⟩ v0).setCell ⟨s, 1, none⟩ v1).setCell ⟨s, 2, none⟩ v2).setCell ⟨s, 3, none⟩ v3).setCell ⟨s, 4, none⟩ v4).setCell ⟨s, 5, none⟩ v5) s 208 #[v0, v1, v2, v3, v4, v5, c6, c7, c8, c9, c10] := (h4).set_ 5 v5
 have t5 : Tch 208 (((((W.setCell ⟨s, 0, none⟩ v0).setCell ⟨s, 1, none⟩ v1).setCell ⟨s, 2, none⟩ v2).setCell ⟨s, 3, none⟩ v3).setCell ⟨s, 4, none⟩ v4) ((((((W.setCell ⟨s, 0, none⟩ v0).setCell ⟨s, 1, none⟩ v1).setCell ⟨s, 2, none⟩ v2).setCell ⟨s, 3, none⟩ v3).setCell ⟨s, 4, none⟩ v4).setCell ⟨s, 5, none⟩ v5) := Tch.of_set (p := ⟨s, 5, none⟩) h4 v5
 have h6 : Blk (((((((W.setCell ⟨s, 0, none⟩ v0).setCell ⟨s, 1, none⟩ v1).setCell ⟨s, 2, none⟩ v2).setCell ⟨s, 3, none⟩ v3).setCell ⟨s, 4, none⟩ v4).setCell ⟨s, 5, none⟩ v5).setCell ⟨s, 6, none⟩ v6) s 208 #[v0, v1, v2, v3, v4, v5, v6, c7, c8, c9, c10] := (h5).set_ 6 v6
 have t6 : Tch 208 ((((((W.setCell ⟨s, 0, none⟩ v0).setCell ⟨s, 1, none⟩ v1).setCell ⟨s, 2, none⟩ v2).setCell ⟨s, 3, none⟩ v3).setCell ⟨s, 4, none⟩ v4).setCell ⟨s, 5, none⟩ v5) (((((((W.setCell ⟨s, 0, none⟩ v0).setCell ⟨s, 1, none⟩ v1).setCell ⟨s, 2, none⟩ v2).setCell ⟨s, 3, none⟩ v3).setCell ⟨s, 4, none⟩ v4).setCell ⟨s, 5, none⟩ v5).setCell ⟨s, 6, none⟩ v6) := Tch.of_set (p := ⟨s, 6, none⟩) h5 v6
 have h7 : Blk ((((((((W.setCell ⟨s, 0, none⟩ v0).setCell ⟨s, 1, none⟩ v1).setCell ⟨s, 2, none⟩ v2).setCell ⟨s, 3, none⟩ v3).setCell ⟨s, 4, none⟩ v4).setCell ⟨s, 5, none⟩ v5).setCell ⟨s, 6, none⟩ v6).setCell ⟨s, 7, none⟩ v7) s 208 #[v0, v1, v2, v3, v4, v5, v6, v7, c8, c9, c10] := (h6).set_ 7 v7
 have t7 : Tch 208 (((((((W.setCell ⟨s, 0, none⟩ v0).setCell ⟨s, 1, none⟩ v1).setCell ⟨s, 2, none⟩ v2).setCell ⟨s, 3, none⟩ v3).setCell ⟨s, 4, none⟩ v4).setCell ⟨s, 5, none⟩ v5).setCell ⟨s, 6, none⟩ v6) ((((((((W.setCell ⟨s, 0, none⟩ v0).setCell ⟨s, 1, none⟩ v1).setCell ⟨s, 2, none⟩ v2).setCell ⟨s, 3, none⟩ v3).setCell ⟨s, 4, none⟩ v4).setCell ⟨s, 5, none⟩ v5).setCell ⟨s, 6, none⟩ v6).setCell ⟨s, 7, none⟩ v7) := Tch.of_set (p := ⟨s, 7, none⟩) h6 v7
 have h8 : Blk (((((((((W.setCell ⟨s, 0, none⟩ v0).setCell ⟨s, 1, none⟩ v1).setCell ⟨s, 2, none⟩ v2).setCell ⟨s, 3, none⟩ v3).setCell ⟨s, 4, none⟩ v4).setCell ⟨s, 5, none⟩ v5).setCell ⟨s, 6, none⟩ v6).setCell ⟨s, 7, none⟩ v7).setCell ⟨s, 8, none⟩ v8) s 208 #[v0, v1, v2, v3, v4, v5, v6, v7, v8, c9, c10] := (h7).set_ 8 v8
 have t8 : Tch 208 ((((((((W.setCell ⟨s, 0, none⟩ v0).setCell ⟨s, 1, none⟩ v1).setCell ⟨s, 2, none⟩ v2).setCell ⟨s, 3, none⟩ v3).setCell ⟨s, 4, none⟩ v4).setCell ⟨s, 5, none⟩ v5).setCell ⟨s, 6, none⟩ v6).setCell ⟨s, 7, none⟩ v7) (((((((((W.setCell ⟨s, 0, none⟩ v0).setCell ⟨s, 1, none⟩ v1).setCell ⟨s, 2, none⟩ v2).setCell ⟨s, 3, none⟩ v3).setCell ⟨s, 4, none⟩ v4).setCell ⟨s, 5, none⟩ v5).setCell ⟨s, 6, none⟩ v6).setCell ⟨s, 7, none⟩ v7).setCell ⟨s, 8, none⟩ v8) := Tch.of_set (p := ⟨s, 8, none⟩) h7 v8
 have h9 : Blk ((((((((((W.setCell ⟨s, 0, none⟩ v0).setCell ⟨s, 1, none⟩ v1).setCell ⟨s, 2, none⟩ v2).setCell ⟨s, 3, none⟩ v3).setCell ⟨s, 4, none⟩ v4).setCell ⟨s, 5, none⟩ v5).setCell ⟨s, 6, none⟩ v6).setCell ⟨s, 7, none⟩ v7).setCell ⟨s, 8, none⟩ v8).setCell ⟨s, 9, none⟩ v9) s 208 #[v0, v1, v2, v3, v4, v5, v6, v7, v8, v9, c10] := (h8).set_ 9 v9
 have t9 : Tch 208 (((((((((W.setCell ⟨s, 0, none⟩ v0).setCell ⟨s, 1, none⟩ v1).setCell ⟨s, 2, none⟩ v2).setCell ⟨s, 3, none⟩ v3).setCell ⟨s, 4, none⟩ v4).setCell ⟨s, 5, none⟩ v5).setCell ⟨s, 6, none⟩ v6).setCell ⟨s, 7, none⟩ v7).setCell ⟨s, 8, none⟩ v8) ((((((((((W.setCell ⟨s, 0, none⟩ v0).setCell ⟨s, 1, none⟩ v1).setCell ⟨s, 2, none⟩ v2).setCell ⟨s, 3, none⟩ v3).setCell ⟨s, 4, none⟩ v4).setCell ⟨s, 5, none⟩ v5).setCell ⟨s, 6, none⟩ v6).setCell ⟨s, 7, none⟩ v7).setCell ⟨s, 8, none⟩ v8).setCell ⟨s, 9, none⟩ v9) := Tch.of_set (p := ⟨s, 9, none⟩) h8 v9
 have h10 : Blk (((((((((((W.setCell ⟨s, 0, none⟩ v0).setCell ⟨s, 1, none⟩ v1).setCell ⟨s, 2, none⟩ v2).setCell ⟨s, 3, none⟩ v3).setCell ⟨s, 4, none⟩ v4).setCell ⟨s, 5, none⟩ v5).setCell ⟨s, 6, none⟩ v6).setCell ⟨s, 7, none⟩ v7).setCell ⟨s, 8, none⟩ v8).setCell ⟨s, 9, none⟩ v9).setCell ⟨s, 10, none⟩ v10) s 208 #[v0, v1, v2, v3, v4, v5, v6, v7, v8, v9, v10] := (h9).set_ 10 v10
 have t10 : Tch 208 ((((((((((W.setCell ⟨s, 0, none⟩ v0).setCell ⟨s, 1, none⟩ v1).setCell ⟨s, 2, none⟩ v2).setCell ⟨s, 3, none⟩ v3).setCell ⟨s, 4, none⟩ v4).setCell ⟨s, 5, none⟩ v5).setCell ⟨s, 6, none⟩ v6).setCell ⟨s, 7, none⟩ v7).setCell ⟨s, 8, none⟩ v8).setCell ⟨s, 9, none⟩ v9) (((((((((((W.setCell ⟨s, 0, none⟩ v0).setCell ⟨s, 1, none⟩ v1).setCell ⟨s, 2, none⟩ v2).setCell ⟨s, 3, none⟩ v3).setCell ⟨s, 4, none⟩ v4).setCell ⟨s, 5, none⟩ v5).setCell ⟨s, 6, none⟩ v6).setCell ⟨s, 7, none⟩ v7).setCell ⟨s, 8, none⟩ v8).setCell ⟨s, 9, none⟩ v9).setCell ⟨s, 10, none⟩ v10) := Tch.of_set (p := ⟨s, 10, none⟩) h9 v10
 refine ⟨h10, t0.tr (t1.tr (t2.tr (t3.tr (t4.tr (t5.tr (t6.tr (t7.tr (t8.tr (t9.tr t10))))))))), ?_⟩
 have b := (Below.refl B W).setCell (p := ⟨s, 0, none⟩) hB v0
 have b := b.setCell (p := ⟨s, 1, none⟩) hB v1
 have b := b.setCell (p := ⟨s, 2, none⟩) hB v2
 have b := b.setCell (p := ⟨s, 3, none⟩) hB v3
 have b := b.setCell (p := ⟨s, 4, none⟩) hB v4
 have b := b.setCell (p := ⟨s, 5, none⟩) hB v5
 have b := b.setCell (p := ⟨s, 6, none⟩) hB v6
 have b := b.setCell (p := ⟨s, 7, none⟩) hB v7
 have b := b.setCell (p := ⟨s, 8, none⟩) hB v8
 have b := b.setCell (p := ⟨s, 9, none⟩) hB v9
 have b := b.setCell (p := ⟨s, 10, none⟩) hB v10
 exact b
end Go.Proofs.YtdjamdbamkhblacDoor
namespace Go.Proofs.YtdjamdbamkhblacDoor
open Go.RowKit
set_option linter.unusedVariables false
set_option linter.unusedSimpArgs false
attribute [local go_sem] After.cell
section
variable {B g b4 p : Nat} {a : KA} {k : Krn} {ms : List (Value × Value)} {es : List Value}
set_option maxRecDepth 100000 in
set_option maxHeartbeats 4000000 in
theorem by_fork (nm dt : ByteArray) (a1 a2 a3 : Int) (w : World) (h : KS B w g a k ms es) (hk : KOk k) (hp : p < 4) (ha4 : a.a4 = some ⟨b4, 0, none⟩) :
  Calls Tryd.prog 81 #[.agg #[.pointer (some ⟨g, 0, none⟩)], .pointer (some ⟨b4, p * 2, none⟩), .agg #[.int .i64 10, .int .i64 a1, .int .i64 a2, .int .i64 a3, .string nm, .string dt]] w (ByPost B w g ms (forkK k p)) := by
 obtain ⟨hpl, be, c, hp', hel, HUN, HKO, HES, HPL, HPLC, HLT, HA4⟩ := by_pre w h hk hp ha4
 have S0 := ByAt.start h #[.int .i64 10, .int .i64 a1, .int .i64 a2, .int .i64 a3, .string nm, .string dt]
 clear h hk ha4
 have HIDX : Hid (∀ W : World, KS B W g a k ms es → Calls Tryd.prog 119 #[.slice (some ⟨b4, 0, none⟩) 4 a.c4, .func (.func 120) #[] #[]] W fun e w' => e = .returned (.int .i64 (freeP k)) ∧ Below W.heap.size W w') := fun W hW => by
  have := IndexFunc_prc 120 #[] (fun x : Prc => !x.live) a.a4 a.c4 k.procs W hW.krn.procs (by rw [HKO.out.l4]; unfold maxLen; omega) by1_enter (fun y _ w2 A1 c1 _ _ => by1_any y A1 c1 w2)
  rw [HKO.out.l4, HA4.out] at this
  exact this
 have HV : Hid (forkK k p = if freeP k < 0 then (k, ansE 8) else ({ k with procs := k.procs.set (freeP k).toNat ⟨true, k.procs[p].ends⟩ }, ansN (freeP k).toNat)) := by
  show _ = _
  unfold forkK
  rw [HUN.out]
 have HCL : Hid (∀ W : World, KS B W g a k ms es → ∀ W' : World, Below W.heap.size W W' → Calls Tryd.prog 58 #[.slice (some ⟨be, 0, none⟩) 6 c] W' fun e w' => ∃ V, e = .returned V ∧ w'.ownsRow W'.heap.size 82 3 V 6 (endCells k.procs[p].ends) ∧ Below W'.heap.size W' w') := fun W hW W' hb => by
  have hr := (KS.rdE (i := 0) (hW.below hb) hpl hp' HES.out).rd
  rw [hel] at hr
  refine (Clone_end (some ⟨be, 0, none⟩) 6 c (endCells k.procs[p].ends) W' hr (fun e => by cases e) (end_one _) (by omega)).mono ?_
  rintro e w' ⟨A', c', rfl, h1, h2⟩
  exact ⟨_, rfl, h1, h2⟩
 go_enter Tryd.func81, Tryd.ntmps81
 go_upto_region 2 with fail
 refine (show ∀ W : World, ByAt B w W g a k ms es #[.int .i64 10, .int .i64 a1, .int .i64 a2, .int .i64 a3, .string nm, .string dt] → Code.wp _ _ _ _ W from ?_) _ S0
 clear S0
 intro W0 hS
 have HS := Lib.hid hS
 clear hS
 have x0 := HS.out.wk.cell 0
 have xl := HS.out.wk.lt
 have c0 := HS.out.ac.cell 0
 have cl := HS.out.ac.lt
 simp at x0 c0
 obtain ⟨d0, d1, d2, d3, d4⟩ := HS.out.ks.c5
 have gl := HS.out.ks.blk.lt
 rw [HKO.out.l3] at d3
 rw [HKO.out.l4, HA4.out] at d4
 rw [HKO.out.l2] at d2
 go_wp2_with fail
 refine (HIDX.out W0 HS.out.ks).mono ?_
 rintro e w1 ⟨rfl, hb⟩
 have HS1 := Lib.hid (HS.out.below hb)
 clear hb HS
 clear x0 xl c0 cl d0 d1 d2 d3 d4 gl HIDX
 obtain ⟨fp, hfp⟩ : ∃ fp, fp = freeP k := ⟨_, rfl⟩
 have HFP := Lib.hid hfp
 rw [← hfp] at HV
 rw [← hfp]
 clear hfp
 by_cases h8 : fp < 0
 ·rw [if_pos h8] at HV
  have ol := HS1.out.ot.lt
  have o0 := HS1.out.ot.cell 0
  have o1 := HS1.out.ot.cell 1
  have of0 := HS1.out.ot.frozen 0
  have of1 := HS1.out.ot.frozen 1
  simp at o0 o1
  go_upto_region 39 with fail
  refine (show ∀ W7 : World, ByEnd B w W7 g a k ms es 8 0 noS → Code.wp _ _ _ _ W7 from ?_) _ (HS1.out.code 8)
  intro W7 h7
  have o0 := h7.ot.cell 0
  have o1 := h7.ot.cell 1
  have o2 := h7.ot.cell 2
  have r0 := h7.rs.cell 0
  have r1 := h7.rs.cell 1
  have r2 := h7.rs.cell 2
  have f0 := h7.rs.frozen 0
  have f1 := h7.rs.frozen 1
  have f2 := h7.rs.frozen 2
  have ol := h7.ot.lt
  have rl := h7.rs.lt
  simp at o0 o1 o2 r0 r1 r2
  have H7 := Lib.hid h7
  clear h7
  go_wp2
  refine bodyPost_ret (v := .agg #[.int .i64 8, .int .i64 0, .string noS]) (by simp [results, Tryd.results81, go_sem, r0, r1, r2]) rfl ?_
  exact H7.out.fin _ HV.out
 ·rw [if_neg h8] at HV
  obtain ⟨q, hq, he, hq0⟩ := idxF_pos (p := fun x : Prc => !x.live) (l := k.procs) (k := 0) (by have := HFP.out; unfold freeP at this; omega)
  rw [Nat.zero_add] at he
  have e1 : fp = (q : Int) := HFP.out.trans he
  subst e1
  rw [Int.toNat_natCast] at HV
  have hq4 : q < 4 := by have := HKO.out.l4; omega
  have HQ := Lib.hid hq
  clear h8 he hq0 hq
  go_upto_region 40 with fail
  have x0 := HS1.out.wk.cell 0
  have xl := HS1.out.wk.lt
  simp at x0
  obtain ⟨d0, d1, d2, d3, d4⟩ := HS1.out.ks.c5
  have gl := HS1.out.ks.blk.lt
  rw [HKO.out.l3] at d3
  rw [HKO.out.l4, HA4.out] at d4
  rw [HKO.out.l2] at d2
  obtain ⟨bl, z1, _⟩ := HS1.out.ks.place_ hpl hp' HA4.out HES.out hel
  have hcell : ∃ u0 u1, w1.cell? ⟨b4, q * 2, none⟩ = some u0 ∧ w1.cell? ⟨b4, q * 2 + 1, none⟩ = some u1 := by
   have hn := HS1.out.ks.cp.procs
   rw [HA4.out] at hn
   have hr := Rd.of_own hn
   obtain ⟨b', o', e1, _, hc⟩ := hr.2 (by have := HKO.out.l4; omega)
   obtain ⟨rfl, rfl⟩ : b4 = b' ∧ 0 = o' := by injection e1 with e1; injection e1 with e1 e2; exact ⟨e1, e2⟩
   obtain ⟨g1, g2⟩ := prcCells_at k.procs es HS1.out.ks.cp.ends.len q HQ.out (by have := HS1.out.ks.cp.ends.len; have := HQ.out; omega)
   have g1 := hc _ _ g1
   have g2 := hc _ _ g2
   rw [Nat.zero_add] at g1 g2
   exact ⟨_, _, g1, g2⟩
  obtain ⟨u0, u1, g0, g1⟩ := hcell
  have f0 : w1.frozen? ⟨b4, q * 2, none⟩ = false := by
   have hn := HS1.out.ks.cp.procs
   rw [HA4.out] at hn
   exact hn.frozenAt _
  have f1 : w1.frozen? ⟨b4, q * 2 + 1, none⟩ = false := by
   have hn := HS1.out.ks.cp.procs
   rw [HA4.out] at hn
   exact hn.frozenAt _
  have HL := Lib.hid (show xl = xl ∧ True from ⟨rfl, trivial⟩)
  refine byFork w1 w.heap.size g b4 a.c4 be c p q (endCells k.procs[p].ends) u0 u1 w1 _ (below_drew1 _) xl x0 gl d4 bl z1 g0 g1 f0 f1 hq4 (HCL.out w1 HS1.out.ks) ?_
  clear x0 xl d0 d1 d2 d3 d4 gl bl z1 g0 g1 f0 f1 HL HCL
  intro listed W y139 y140 y141 y142 y143 y144 y145 y146 y147 y148 y149 y150 y151 hall hJ
  obtain ⟨V, W1, hb1, hV, rfl⟩ := hJ.f13 (hall 13 (by decide))
  clear hJ
  have hfin := HS1.out.ks.prc (x := ⟨true, k.procs[p].ends⟩) hb1 HA4.out HQ.out (by rw [hel]; exact hV) (by rw [hel]; omega)
  have HS2 := Lib.hid (HS1.out.next hfin.1 ((Fr.low hb1 (Nat.le_of_lt HS1.out.ks.lt)).trans hfin.2))
  clear hfin hb1 hV
  go_upto_region 41 with fail
  refine (show ∀ W4 : World, ByAt B w W4 g a { k with procs := k.procs.set q ⟨true, k.procs[p].ends⟩ } ms (es.set q V) _ → Code.wp _ _ _ _ W4 from ?_) _ HS2.out
  clear HS2
  intro W4 hS4
  have HS4 := Lib.hid hS4
  clear hS4
  have ol := HS4.out.ot.lt
  have o0 := HS4.out.ot.cell 0
  have o1 := HS4.out.ot.cell 1
  have of0 := HS4.out.ot.frozen 0
  have of1 := HS4.out.ot.frozen 1
  simp at o0 o1
  go_upto_region 42 with fail
  refine (show ∀ W7 : World, ByEnd B w W7 g a { k with procs := k.procs.set q ⟨true, k.procs[p].ends⟩ } ms (es.set q V) 0 q noS → Code.wp _ _ _ _ W7 from ?_) _ (HS4.out.num q)
  intro W7 h7
  have o0 := h7.ot.cell 0
  have o1 := h7.ot.cell 1
  have o2 := h7.ot.cell 2
  have r0 := h7.rs.cell 0
  have r1 := h7.rs.cell 1
  have r2 := h7.rs.cell 2
  have f0 := h7.rs.frozen 0
  have f1 := h7.rs.frozen 1
  have f2 := h7.rs.frozen 2
  have ol := h7.ot.lt
  have rl := h7.rs.lt
  simp at o0 o1 o2 r0 r1 r2
  have H7 := Lib.hid h7
  clear h7
  go_wp2
  refine bodyPost_ret (v := .agg #[.int .i64 0, .int .i64 q, .string noS]) (by simp [results, Tryd.results81, go_sem, r0, r1, r2]) rfl ?_
  exact H7.out.fin _ HV.out
set_option maxRecDepth 100000 in
set_option maxHeartbeats 4000000 in
theorem by_exit (nm dt : ByteArray) (a1 a2 a3 : Int) (w : World) (h : KS B w g a k ms es) (hk : KOk k) (hp : p < 4) (ha4 : a.a4 = some ⟨b4, 0, none⟩) :
  Calls Tryd.prog 81 #[.agg #[.pointer (some ⟨g, 0, none⟩)], .pointer (some ⟨b4, p * 2, none⟩), .agg #[.int .i64 11, .int .i64 a1, .int .i64 a2, .int .i64 a3, .string nm, .string dt]] w (ByPost B w g ms (exitK k p)) := by
 obtain ⟨hpl, be, c, hp', hel, HUN, HKO, HES, HPL, HPLC, HLT, HA4⟩ := by_pre w h hk hp ha4
 have S0 := ByAt.start h #[.int .i64 11, .int .i64 a1, .int .i64 a2, .int .i64 a3, .string nm, .string dt]
 clear h hk ha4
 have hmk := mk_ends
 have HV : Hid (exitK k p = (tidyK { k with procs := k.procs.set p ⟨false, List.replicate 6 default⟩ }, ansN 0)) := rfl
 go_enter Tryd.func81, Tryd.ntmps81
 go_upto_region 2 with fail
 refine (show ∀ W : World, ByAt B w W g a k ms es #[.int .i64 11, .int .i64 a1, .int .i64 a2, .int .i64 a3, .string nm, .string dt] → Code.wp _ _ _ _ W from ?_) _ S0
 clear S0
 intro W0 hS
 have HS := Lib.hid hS
 clear hS
 have c0 := HS.out.ac.cell 0
 have cl := HS.out.ac.lt
 simp at c0
 obtain ⟨b5, be', c', _, e5, _, bl, _, _, _, _, z0, z1⟩ := HS.out.ks.prcAt hpl (by omega)
 obtain rfl : b4 = b5 := by rw [HA4.out] at e5; injection e5 with e5; injection e5
 have f0 : W0.frozen? ⟨b4, p * 2, none⟩ = false := by
  have hn := HS.out.ks.cp.procs
  rw [HA4.out] at hn
  exact hn.frozenAt _
 have f1 : W0.frozen? ⟨b4, p * 2 + 1, none⟩ = false := by
  have hn := HS.out.ks.cp.procs
  rw [HA4.out] at hn
  exact hn.frozenAt _
 have hb1 := (Below.refl W0.heap.size W0).alloc (Nat.le_refl _) (.cells zEnds 82)
 have hnn := HS.out.ks.prc (x := ⟨false, List.replicate 6 default⟩) hb1 HA4.out hpl (own_ends W0) (by simp)
 rw [World.setCell_alloc_past _ _ _ _ bl, World.setCell_alloc_past _ _ _ _ (by simpa using bl)] at hnn
 have HN := Lib.hid hnn
 clear hnn
 have HN2 : Hid (Fr B W0 (W0.alloc (.cells zEnds 82))) := Fr.low hb1 (Nat.le_of_lt HS.out.ks.lt)
 clear hb1 e5
 go_upto_region 45 with fail
 refine (show ∀ W1 : World, ByAt B w W1 g a { k with procs := k.procs.set p ⟨false, List.replicate 6 default⟩ } ms (es.set p (.slice (some ⟨W0.heap.size, 0, none⟩) 6 6)) _ → Code.wp _ _ _ _ W1 from ?_) _ (HS.out.next HN.out.1 (HN2.out.trans HN.out.2))
 clear HN HN2 HS bl z0 z1 f0 f1 c0 cl hmk
 intro W1 hHS1
 have HS1 := Lib.hid hHS1
 clear hHS1
 have x0 := HS1.out.wk.cell 0
 have xl := HS1.out.wk.lt
 simp at x0
 have HT := Lib.hid (tidy_any W1 HS1.out.ks HKO.out.l2 HKO.out.l3 (by simp only [List.length_set]; exact HKO.out.l4))
 go_wp2_with fail
 refine HT.out.mono ?_
 rintro e w2 ⟨rfl, hK2, hF2⟩
 have HS2 := Lib.hid (HS1.out.next hK2 hF2)
 clear HT hK2 hF2 x0 xl HS1
 have ol := HS2.out.ot.lt
 have o0 := HS2.out.ot.cell 0
 have o1 := HS2.out.ot.cell 1
 have of0 := HS2.out.ot.frozen 0
 have of1 := HS2.out.ot.frozen 1
 simp at o0 o1
 go_upto_region 46 with fail
 refine (show ∀ W7 : World, ByEnd B w W7 g a (tidyK { k with procs := k.procs.set p ⟨false, List.replicate 6 default⟩ }) ms (es.set p (.slice (some ⟨W0.heap.size, 0, none⟩) 6 6)) 0 0 noS → Code.wp _ _ _ _ W7 from ?_) _ (HS2.out.nothing)
 intro W7 h7
 have o0 := h7.ot.cell 0
 have o1 := h7.ot.cell 1
 have o2 := h7.ot.cell 2
 have r0 := h7.rs.cell 0
 have r1 := h7.rs.cell 1
 have r2 := h7.rs.cell 2
 have f0 := h7.rs.frozen 0
 have f1 := h7.rs.frozen 1
 have f2 := h7.rs.frozen 2
 have ol := h7.ot.lt
 have rl := h7.rs.lt
 simp at o0 o1 o2 r0 r1 r2
 have H7 := Lib.hid h7
 clear h7
 go_wp2
 refine bodyPost_ret (v := .agg #[.int .i64 0, .int .i64 0, .string noS]) (by simp [results, Tryd.results81, go_sem, r0, r1, r2]) rfl ?_
 exact H7.out.fin _ HV.out
end
end Go.Proofs.YtdjamdbamkhblacDoor
