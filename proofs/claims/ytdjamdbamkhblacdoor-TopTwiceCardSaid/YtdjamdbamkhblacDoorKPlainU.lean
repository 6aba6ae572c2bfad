/- A round of K.Plain's loop: the plain kinds. No condition. -/
import Derived.Test.YtdjamdbamkhblacDoorKPlainH
namespace Go.Proofs.YtdjamdbamkhblacDoor
open Go.RowKit
set_option linter.unusedVariables false
set_option linter.unusedSimpArgs false
set_option maxRecDepth 1000000 in
set_option maxHeartbeats 100000000 in
theorem pc_goU (w0 wr : World) (c n k : Nat) (A : Option Addr) (l : List Ins) (V : Value) (u : Nat → Value) (Q0 : Exit → Act → World → Prop) (hS : pkOf l k = 0 ∨ pkOf l k = 1 ∨ pkOf l k = 2 ∨ pkOf l k = 3 ∨ pkOf l k = 4 ∨ pkOf l k = 5 ∨ pkOf l k = 6 ∨ pkOf l k = 7 ∨ pkOf l k = 8 ∨ pkOf l k = 10 ∨ pkOf l k = 13 ∨ pkOf l k = 9 ∨ pkOf l k = 11 ∨ pkOf l k = 12) (hk : k < n) (hn : n ≤ l.length) (hn30 : n ≤ 30) (hr : RdI w0 w0.heap.size A l) (hwf : ∀ i ∈ l, i.wf)
  (hB : Below w0.heap.size w0 wr) (hV : wr.ownsRow w0.heap.size 65 4 V k (insCells (plainTo l n k))) :
  Code.wp Tryd.prog pbody (Exit.then (fun a' w'' => PWI w0 c n A l a' w'' ∧ pmu n a' w'' < n - k) Q0) ⟨#[.slice A l.length c, u 1, u 2, .int .i64 (n : Int), V, u 5, u 6, u 7, u 8, u 9, u 10, .int .i64 (n : Int), .int .i64 (k : Int), u 13, u 14, u 15, u 16, u 17, u 18, u 19, u 20, u 21, u 22, u 23, u 24, u 25, u 26, u 27, u 28, u 29, u 30, u 31, u 32, u 33, u 34, u 35, u 36, u 37, u 38, u 39, u 40, u 41, u 42, u 43, u 44, u 45, u 46, u 47, u 48, u 49, u 50, u 51, u 52, u 53, u 54, u 55, u 56, u 57, u 58, u 59, u 60, u 61, u 62, u 63, u 64, u 65, u 66, u 67, u 68, u 69, u 70, u 71, u 72, u 73, u 74, u 75, u 76, u 77, u 78, u 79, u 80, u 81, u 82, u 83, u 84, u 85, u 86, u 87, u 88, u 89, u 90, u 91, u 92, u 93, u 94, u 95, u 96, u 97, u 98, u 99, u 100, u 101, u 102, u 103, u 104, u 105, u 106, u 107, u 108, u 109, u 110, u 111, u 112, u 113, u 114, u 115, u 116, u 117, u 118], []⟩ wr := by
 have hkl : k < l.length := by omega
 obtain ⟨b, o, rfl, hb, hcell⟩ := hr (by omega)
 obtain ⟨c0, c1, c2, c3⟩ := hcell k hkl
 have hki : (k : Int) < (n : Int) := by omega
 have hkl2 : (k : Int) < (l.length : Int) := by omega
 have hin := hwf _ (List.getElem_mem hkl)
 obtain ⟨r, hrr⟩ : ∃ r, r = l[k] := ⟨_, rfl⟩
 rw [← hrr] at c0 c1 c2 c3 hin
 obtain ⟨rk, ra, rb, rc⟩ := r
 simp only at c0 c1 c2 c3
 have c0 := (hB.cell (p := ⟨b, o + k * 4, none⟩) hb).trans c0
 have c1 := (hB.cell (p := ⟨b, o + k * 4 + 1, none⟩) hb).trans c1
 have c2 := (hB.cell (p := ⟨b, o + k * 4 + 2, none⟩) hb).trans c2
 have c3 := (hB.cell (p := ⟨b, o + k * 4 + 3, none⟩) hb).trans c3
 have HG : Hid (l.getD k default = ⟨rk, ra, rb, rc⟩) := by
  show _ = _
  rw [List.getD_eq_getElem?_getD, List.getElem?_eq_getElem hkl, ← hrr]
  rfl
 unfold pkOf at hS
 rw [HG.out] at hS
 simp only at hS
 have HSS := Lib.hid hS
 clear hS
 clear hrr hwf hcell
 obtain ⟨⟨wk1, wk2⟩, ⟨wa1, wa2⟩, ⟨wb1, wb2⟩, ⟨wc1, wc2⟩⟩ := hin
 have HP := Lib.hid (plainI_eq n k rk ra rb rc)
 have lk := pick_lt rk (m := 14) (by omega)
 have lqn := pick_lt rc (m := n + 1 - k) (by omega)
 have lqm := pick_lt rc (m := n + 1) (by omega)
 have hw1 : IntKind.i64.wrap ((n : Int) + 1) = (n : Int) + 1 := Go.IntWalk.i64_in _ (by omega)
 have hw2 : IntKind.i64.wrap ((n : Int) + 1 - (k : Int)) = (n : Int) + 1 - (k : Int) := Go.IntWalk.i64_in _ (by omega)
 have hw3 : IntKind.i64.wrap ((k : Int) + (pick rc (n + 1 - k) : Int)) = (k : Int) + (pick rc (n + 1 - k) : Int) := Go.IntWalk.i64_in _ (by omega)
 have PK : Hid (∀ W : World, Calls Tryd.prog 13 #[.int .i64 rk, .int .i64 14] W fun e w' => e = .returned (.int .i64 (pick rk 14 : Nat)) ∧ W = w') := fun W => picked_any rk 14 W wk1 wk2 (by omega) (by omega)
 have PA : Hid (∀ W : World, Calls Tryd.prog 13 #[.int .i64 ra, .int .i64 4] W fun e w' => e = .returned (.int .i64 (pick ra 4 : Nat)) ∧ W = w') := fun W => picked_any ra 4 W wa1 wa2 (by omega) (by omega)
 have PB : Hid (∀ W : World, Calls Tryd.prog 13 #[.int .i64 rb, .int .i64 4] W fun e w' => e = .returned (.int .i64 (pick rb 4 : Nat)) ∧ W = w') := fun W => picked_any rb 4 W wb1 wb2 (by omega) (by omega)
 have PC : Hid (∀ W : World, Calls Tryd.prog 13 #[.int .i64 rc, .int .i64 4] W fun e w' => e = .returned (.int .i64 (pick rc 4 : Nat)) ∧ W = w') := fun W => picked_any rc 4 W wc1 wc2 (by omega) (by omega)
 have PQ80 : Hid (∀ W : World, Calls Tryd.prog 13 #[.int .i64 rc, .int .i64 80] W fun e w' => e = .returned (.int .i64 (pick rc 80 : Nat)) ∧ W = w') := fun W => picked_any rc 80 W wc1 wc2 (by omega) (by omega)
 have PQ9 : Hid (∀ W : World, Calls Tryd.prog 13 #[.int .i64 rb, .int .i64 9] W fun e w' => e = .returned (.int .i64 (pick rb 9 : Nat)) ∧ W = w') := fun W => picked_any rb 9 W wb1 wb2 (by omega) (by omega)
 have PQ12 : Hid (∀ W : World, Calls Tryd.prog 13 #[.int .i64 rb, .int .i64 12] W fun e w' => e = .returned (.int .i64 (pick rb 12 : Nat)) ∧ W = w') := fun W => picked_any rb 12 W wb1 wb2 (by omega) (by omega)
 have PQ3 : Hid (∀ W : World, Calls Tryd.prog 13 #[.int .i64 rc, .int .i64 3] W fun e w' => e = .returned (.int .i64 (pick rc 3 : Nat)) ∧ W = w') := fun W => picked_any rc 3 W wc1 wc2 (by omega) (by omega)
 have PQN : Hid (∀ W : World, Calls Tryd.prog 13 #[.int .i64 rc, .int .i64 ((n : Int) + 1 - (k : Int))] W fun e w' => e = .returned (.int .i64 (pick rc (n + 1 - k) : Nat)) ∧ W = w') := fun W => by
  rw [show (n : Int) + 1 - (k : Int) = ((n + 1 - k : Nat) : Int) by omega]
  exact picked_any rc (n + 1 - k) W wc1 wc2 (by omega) (by omega)
 have PQM : Hid (∀ W : World, Calls Tryd.prog 13 #[.int .i64 rc, .int .i64 ((n : Int) + 1)] W fun e w' => e = .returned (.int .i64 (pick rc (n + 1) : Nat)) ∧ W = w') := fun W => picked_any rc (n + 1) W wc1 wc2 (by omega) (by omega)
 generalize pick rk 14 = pk at *
 generalize pick ra 4 = pa at *
 generalize pick rb 4 = pb at *
 generalize pick rc 4 = pc at *
 generalize pick rc 80 = q80 at *
 generalize pick rb 9 = q9 at *
 generalize pick rb 12 = q12 at *
 generalize pick rc 3 = q3 at *
 generalize pick rc (n + 1 - k) = qn at *
 generalize pick rc (n + 1) = qm at *
 have hS0 : PS w0 (wr.alloc (.cells #[.int .i64 rk, .int .i64 ra, .int .i64 rb, .int .i64 rc] 23)) l n k V wr.heap.size #[.int .i64 rk, .int .i64 ra, .int .i64 rb, .int .i64 rc] := ⟨hV.alloc _, hB.alloc hB.size _, Blk.new wr _ _⟩
 conv => arg 2; whnf
 go_wp2_with fail
 go_cut [7] from 13 (fun u7 wx => ∃ g, u7 = .pointer (some ⟨g, 0, none⟩) ∧ PS w0 wx l n k V wr.heap.size #[.int .i64 rk, .int .i64 ra, .int .i64 rb, .int .i64 rc] ∧ PI w0 wx V g #[.int .i64 (1 + (pk : Int)), .int .i64 (pa : Int), .int .i64 (pb : Int), .int .i64 (pc : Int)])
 case first =>
  refine wp_region_inv (fun listed a W => ∃ u7 y13 y14 y15 y16 y17 y18 y19 y20 y21 y22 y23 y24 y25 y26 y27 y28 y29 y30 y31 y32, PS w0 W l n k V wr.heap.size #[.int .i64 rk, .int .i64 ra, .int .i64 rb, .int .i64 rc] ∧ PJ w0 V wr.heap.size rk ra rb rc pk pa pb pc listed W u7 y19 y20 y21 y22 y23 y24 y25 y26 y27 y28 y29 y30 y31 y32 ∧ a = ⟨#[.slice (some ⟨b, o, none⟩) l.length c, u 1, u 2, .int .i64 (n : Int), V, .int .i64 (k : Int), .pointer (some ⟨wr.heap.size, 0, none⟩), u7, u 8, u 9, u 10, .int .i64 (n : Int), .int .i64 (k : Int), y13, y14, y15, y16, y17, y18, y19, y20, y21, y22, y23, y24, y25, y26, y27, y28, y29, y30, y31, y32, u 33, u 34, u 35, u 36, u 37, u 38, u 39, u 40, u 41, u 42, u 43, u 44, u 45, u 46, u 47, u 48, u 49, u 50, u 51, u 52, u 53, u 54, u 55, u 56, u 57, u 58, u 59, u 60, u 61, u 62, u 63, u 64, u 65, u 66, u 67, u 68, u 69, u 70, u 71, u 72, u 73, u 74, u 75, u 76, u 77, u 78, u 79, u 80, u 81, u 82, u 83, u 84, u 85, u 86, u 87, u 88, u 89, u 90, u 91, u 92, u 93, u 94, u 95, u 96, u 97, u 98, u 99, u 100, u 101, u 102, u 103, u 104, u 105, u 106, u 107, u 108, u 109, u 110, u 111, u 112, u 113, u 114, u 115, u 116, u 117, u 118], []⟩) (by kernel_rfl) (ord_of (by kernel_rfl)) ?start ?step ?fin
  case start => exact ⟨_, _, _, _, _, _, _, _, _, _, _, _, _, _, _, _, _, _, _, _, _, ⟨hS0.own, hS0.below.drew, Blk.drew hS0.raw⟩, ⟨fun h => absurd h (by decide), fun h => absurd h (by decide), fun h => absurd h (by decide), fun h => absurd h (by decide), fun h => absurd h (by decide), fun h => absurd h (by decide), fun h => absurd h (by decide), fun h => absurd h (by decide), fun h => absurd h (by decide), fun h => absurd h (by decide), fun h => absurd h (by decide), fun h => absurd h (by decide), fun h => absurd h (by decide), fun h => absurd h (by decide), fun h => absurd h (by decide), fun h => absurd h (by decide)⟩, rfl⟩
  case step =>
   intro i o ho listed a W hl haf hI K hK
   obtain ⟨u7, y13, y14, y15, y16, y17, y18, y19, y20, y21, y22, y23, y24, y25, y26, y27, y28, y29, y30, y31, y32, hS, hJ, rfl⟩ := hI
   have hi : i < 16 := (Array.getElem?_eq_some_iff.1 ho).1
   have h16 : i = 0 ∨ i = 1 ∨ i = 2 ∨ i = 3 ∨ i = 4 ∨ i = 5 ∨ i = 6 ∨ i = 7 ∨ i = 8 ∨ i = 9 ∨ i = 10 ∨ i = 11 ∨ i = 12 ∨ i = 13 ∨ i = 14 ∨ i = 15 := by omega
   have rc0 := hS.raw.cell 0
   have rc1 := hS.raw.cell 1
   have rc2 := hS.raw.cell 2
   have rc3 := hS.raw.cell 3
   simp at rc0 rc1 rc2 rc3
   rcases h16 with rfl | rfl | rfl | rfl | rfl | rfl | rfl | rfl | rfl | rfl | rfl | rfl | rfl | rfl | rfl | rfl
   ·have ho' := Option.some.inj ho
    subst ho'
    have HS := Lib.hid hS
    have HJ := Lib.hid hJ
    clear hS hJ haf
    try unfold pt
    go_simp
    have hS := HS.out
    have hJ := HJ.out
    exact hK _ _ ⟨_, _, _, _, _, _, _, _, _, _, _, _, _, _, _, _, _, _, _, _, _, hS, ⟨fun _ => rfl, fun x => hJ.f1 (upne (by decide) x), fun x => hJ.f2 (upne (by decide) x), fun x => hJ.f3 (upne (by decide) x), fun x => hJ.f4 (upne (by decide) x), fun x => hJ.f5 (upne (by decide) x), fun x => hJ.f6 (upne (by decide) x), fun x => hJ.f7 (upne (by decide) x), fun x => hJ.f8 (upne (by decide) x), fun x => hJ.f9 (upne (by decide) x), fun x => hJ.f10 (upne (by decide) x), fun x => hJ.f11 (upne (by decide) x), fun x => hJ.f12 (upne (by decide) x), fun x => hJ.f13 (upne (by decide) x), fun x => by have := hJ.f14 (upne (by decide) x); simpa only [upeq (l := listed) (i := 0) (j := 15) (by decide)] using this, fun x => by rw [upeq (by decide)]; exact hJ.f15 (upne (by decide) x)⟩, rfl⟩
   ·have ho' := Option.some.inj ho
    subst ho'
    simp [Region.binds] at haf
    have p0 : listed.getD 0 true = true := waitsP (by simp [haf])
    obtain rfl := hJ.f0 p0
    have HS := Lib.hid hS
    have HJ := Lib.hid hJ
    clear hS hJ haf
    try unfold pt
    go_simp
    have hS := HS.out
    have hJ := HJ.out
    exact hK _ _ ⟨_, _, _, _, _, _, _, _, _, _, _, _, _, _, _, _, _, _, _, _, _, hS, ⟨fun x => hJ.f0 (upne (by decide) x), fun _ => rfl, fun x => hJ.f2 (upne (by decide) x), fun x => hJ.f3 (upne (by decide) x), fun x => hJ.f4 (upne (by decide) x), fun x => hJ.f5 (upne (by decide) x), fun x => hJ.f6 (upne (by decide) x), fun x => hJ.f7 (upne (by decide) x), fun x => hJ.f8 (upne (by decide) x), fun x => hJ.f9 (upne (by decide) x), fun x => hJ.f10 (upne (by decide) x), fun x => hJ.f11 (upne (by decide) x), fun x => hJ.f12 (upne (by decide) x), fun x => hJ.f13 (upne (by decide) x), fun x => by have := hJ.f14 (upne (by decide) x); simpa only [upeq (l := listed) (i := 1) (j := 15) (by decide)] using this, fun x => by rw [upeq (by decide)]; exact hJ.f15 (upne (by decide) x)⟩, rfl⟩
   ·have ho' := Option.some.inj ho
    subst ho'
    simp [Region.binds] at haf
    have p1 : listed.getD 1 true = true := waitsP (by simp [haf])
    obtain rfl := hJ.f1 p1
    have HS := Lib.hid hS
    have HJ := Lib.hid hJ
    clear hS hJ haf
    try unfold pt
    go_simp
    go_at_call 13
    refine (PK.out _).mono ?_
    rintro e w' ⟨rfl, rfl⟩
    have hS := HS.out
    have hJ := HJ.out
    exact hK _ _ ⟨_, _, _, _, _, _, _, _, _, _, _, _, _, _, _, _, _, _, _, _, _, hS, ⟨fun x => hJ.f0 (upne (by decide) x), fun x => hJ.f1 (upne (by decide) x), fun _ => rfl, fun x => hJ.f3 (upne (by decide) x), fun x => hJ.f4 (upne (by decide) x), fun x => hJ.f5 (upne (by decide) x), fun x => hJ.f6 (upne (by decide) x), fun x => hJ.f7 (upne (by decide) x), fun x => hJ.f8 (upne (by decide) x), fun x => hJ.f9 (upne (by decide) x), fun x => hJ.f10 (upne (by decide) x), fun x => hJ.f11 (upne (by decide) x), fun x => hJ.f12 (upne (by decide) x), fun x => hJ.f13 (upne (by decide) x), fun x => by have := hJ.f14 (upne (by decide) x); simpa only [upeq (l := listed) (i := 2) (j := 15) (by decide)] using this, fun x => by rw [upeq (by decide)]; exact hJ.f15 (upne (by decide) x)⟩, rfl⟩
   ·have ho' := Option.some.inj ho
    subst ho'
    simp [Region.binds] at haf
    have p2 : listed.getD 2 true = true := waitsP (by simp [haf])
    obtain rfl := hJ.f2 p2
    have HS := Lib.hid hS
    have HJ := Lib.hid hJ
    clear hS hJ haf
    try unfold pt
    go_simp
    simp only [Go.IntWalk.i64_in (1 + (pk : Int)) (by omega)]
    have hS := HS.out
    have hJ := HJ.out
    exact hK _ _ ⟨_, _, _, _, _, _, _, _, _, _, _, _, _, _, _, _, _, _, _, _, _, hS, ⟨fun x => hJ.f0 (upne (by decide) x), fun x => hJ.f1 (upne (by decide) x), fun x => hJ.f2 (upne (by decide) x), fun _ => rfl, fun x => hJ.f4 (upne (by decide) x), fun x => hJ.f5 (upne (by decide) x), fun x => hJ.f6 (upne (by decide) x), fun x => hJ.f7 (upne (by decide) x), fun x => hJ.f8 (upne (by decide) x), fun x => hJ.f9 (upne (by decide) x), fun x => hJ.f10 (upne (by decide) x), fun x => hJ.f11 (upne (by decide) x), fun x => hJ.f12 (upne (by decide) x), fun x => hJ.f13 (upne (by decide) x), fun x => by have := hJ.f14 (upne (by decide) x); simpa only [upeq (l := listed) (i := 3) (j := 15) (by decide)] using this, fun x => by rw [upeq (by decide)]; exact hJ.f15 (upne (by decide) x)⟩, rfl⟩
   ·have ho' := Option.some.inj ho
    subst ho'
    have HS := Lib.hid hS
    have HJ := Lib.hid hJ
    clear hS hJ haf
    try unfold pt
    go_simp
    have hS := HS.out
    have hJ := HJ.out
    exact hK _ _ ⟨_, _, _, _, _, _, _, _, _, _, _, _, _, _, _, _, _, _, _, _, _, hS, ⟨fun x => hJ.f0 (upne (by decide) x), fun x => hJ.f1 (upne (by decide) x), fun x => hJ.f2 (upne (by decide) x), fun x => hJ.f3 (upne (by decide) x), fun _ => rfl, fun x => hJ.f5 (upne (by decide) x), fun x => hJ.f6 (upne (by decide) x), fun x => hJ.f7 (upne (by decide) x), fun x => hJ.f8 (upne (by decide) x), fun x => hJ.f9 (upne (by decide) x), fun x => hJ.f10 (upne (by decide) x), fun x => hJ.f11 (upne (by decide) x), fun x => hJ.f12 (upne (by decide) x), fun x => hJ.f13 (upne (by decide) x), fun x => by have := hJ.f14 (upne (by decide) x); simpa only [upeq (l := listed) (i := 4) (j := 15) (by decide)] using this, fun x => by rw [upeq (by decide)]; exact hJ.f15 (upne (by decide) x)⟩, rfl⟩
   ·have ho' := Option.some.inj ho
    subst ho'
    simp [Region.binds] at haf
    have p4 : listed.getD 4 true = true := waitsP (by simp [haf])
    obtain rfl := hJ.f4 p4
    have HS := Lib.hid hS
    have HJ := Lib.hid hJ
    clear hS hJ haf
    try unfold pt
    go_simp
    have hS := HS.out
    have hJ := HJ.out
    exact hK _ _ ⟨_, _, _, _, _, _, _, _, _, _, _, _, _, _, _, _, _, _, _, _, _, hS, ⟨fun x => hJ.f0 (upne (by decide) x), fun x => hJ.f1 (upne (by decide) x), fun x => hJ.f2 (upne (by decide) x), fun x => hJ.f3 (upne (by decide) x), fun x => hJ.f4 (upne (by decide) x), fun _ => rfl, fun x => hJ.f6 (upne (by decide) x), fun x => hJ.f7 (upne (by decide) x), fun x => hJ.f8 (upne (by decide) x), fun x => hJ.f9 (upne (by decide) x), fun x => hJ.f10 (upne (by decide) x), fun x => hJ.f11 (upne (by decide) x), fun x => hJ.f12 (upne (by decide) x), fun x => hJ.f13 (upne (by decide) x), fun x => by have := hJ.f14 (upne (by decide) x); simpa only [upeq (l := listed) (i := 5) (j := 15) (by decide)] using this, fun x => by rw [upeq (by decide)]; exact hJ.f15 (upne (by decide) x)⟩, rfl⟩
   ·have ho' := Option.some.inj ho
    subst ho'
    simp [Region.binds] at haf
    have p5 : listed.getD 5 true = true := waitsP (by simp [haf])
    obtain rfl := hJ.f5 p5
    have HS := Lib.hid hS
    have HJ := Lib.hid hJ
    clear hS hJ haf
    try unfold pt
    go_simp
    go_at_call 13
    refine (PA.out _).mono ?_
    rintro e w' ⟨rfl, rfl⟩
    have hS := HS.out
    have hJ := HJ.out
    exact hK _ _ ⟨_, _, _, _, _, _, _, _, _, _, _, _, _, _, _, _, _, _, _, _, _, hS, ⟨fun x => hJ.f0 (upne (by decide) x), fun x => hJ.f1 (upne (by decide) x), fun x => hJ.f2 (upne (by decide) x), fun x => hJ.f3 (upne (by decide) x), fun x => hJ.f4 (upne (by decide) x), fun x => hJ.f5 (upne (by decide) x), fun _ => rfl, fun x => hJ.f7 (upne (by decide) x), fun x => hJ.f8 (upne (by decide) x), fun x => hJ.f9 (upne (by decide) x), fun x => hJ.f10 (upne (by decide) x), fun x => hJ.f11 (upne (by decide) x), fun x => hJ.f12 (upne (by decide) x), fun x => hJ.f13 (upne (by decide) x), fun x => by have := hJ.f14 (upne (by decide) x); simpa only [upeq (l := listed) (i := 6) (j := 15) (by decide)] using this, fun x => by rw [upeq (by decide)]; exact hJ.f15 (upne (by decide) x)⟩, rfl⟩
   ·have ho' := Option.some.inj ho
    subst ho'
    have HS := Lib.hid hS
    have HJ := Lib.hid hJ
    clear hS hJ haf
    try unfold pt
    go_simp
    have hS := HS.out
    have hJ := HJ.out
    exact hK _ _ ⟨_, _, _, _, _, _, _, _, _, _, _, _, _, _, _, _, _, _, _, _, _, hS, ⟨fun x => hJ.f0 (upne (by decide) x), fun x => hJ.f1 (upne (by decide) x), fun x => hJ.f2 (upne (by decide) x), fun x => hJ.f3 (upne (by decide) x), fun x => hJ.f4 (upne (by decide) x), fun x => hJ.f5 (upne (by decide) x), fun x => hJ.f6 (upne (by decide) x), fun _ => rfl, fun x => hJ.f8 (upne (by decide) x), fun x => hJ.f9 (upne (by decide) x), fun x => hJ.f10 (upne (by decide) x), fun x => hJ.f11 (upne (by decide) x), fun x => hJ.f12 (upne (by decide) x), fun x => hJ.f13 (upne (by decide) x), fun x => by have := hJ.f14 (upne (by decide) x); simpa only [upeq (l := listed) (i := 7) (j := 15) (by decide)] using this, fun x => by rw [upeq (by decide)]; exact hJ.f15 (upne (by decide) x)⟩, rfl⟩
   ·have ho' := Option.some.inj ho
    subst ho'
    simp [Region.binds] at haf
    have p7 : listed.getD 7 true = true := waitsP (by simp [haf])
    obtain rfl := hJ.f7 p7
    have HS := Lib.hid hS
    have HJ := Lib.hid hJ
    clear hS hJ haf
    try unfold pt
    go_simp
    have hS := HS.out
    have hJ := HJ.out
    exact hK _ _ ⟨_, _, _, _, _, _, _, _, _, _, _, _, _, _, _, _, _, _, _, _, _, hS, ⟨fun x => hJ.f0 (upne (by decide) x), fun x => hJ.f1 (upne (by decide) x), fun x => hJ.f2 (upne (by decide) x), fun x => hJ.f3 (upne (by decide) x), fun x => hJ.f4 (upne (by decide) x), fun x => hJ.f5 (upne (by decide) x), fun x => hJ.f6 (upne (by decide) x), fun x => hJ.f7 (upne (by decide) x), fun _ => rfl, fun x => hJ.f9 (upne (by decide) x), fun x => hJ.f10 (upne (by decide) x), fun x => hJ.f11 (upne (by decide) x), fun x => hJ.f12 (upne (by decide) x), fun x => hJ.f13 (upne (by decide) x), fun x => by have := hJ.f14 (upne (by decide) x); simpa only [upeq (l := listed) (i := 8) (j := 15) (by decide)] using this, fun x => by rw [upeq (by decide)]; exact hJ.f15 (upne (by decide) x)⟩, rfl⟩
   ·have ho' := Option.some.inj ho
    subst ho'
    simp [Region.binds] at haf
    have p8 : listed.getD 8 true = true := waitsP (by simp [haf])
    obtain rfl := hJ.f8 p8
    have HS := Lib.hid hS
    have HJ := Lib.hid hJ
    clear hS hJ haf
    try unfold pt
    go_simp
    go_at_call 13
    refine (PB.out _).mono ?_
    rintro e w' ⟨rfl, rfl⟩
    have hS := HS.out
    have hJ := HJ.out
    exact hK _ _ ⟨_, _, _, _, _, _, _, _, _, _, _, _, _, _, _, _, _, _, _, _, _, hS, ⟨fun x => hJ.f0 (upne (by decide) x), fun x => hJ.f1 (upne (by decide) x), fun x => hJ.f2 (upne (by decide) x), fun x => hJ.f3 (upne (by decide) x), fun x => hJ.f4 (upne (by decide) x), fun x => hJ.f5 (upne (by decide) x), fun x => hJ.f6 (upne (by decide) x), fun x => hJ.f7 (upne (by decide) x), fun x => hJ.f8 (upne (by decide) x), fun _ => rfl, fun x => hJ.f10 (upne (by decide) x), fun x => hJ.f11 (upne (by decide) x), fun x => hJ.f12 (upne (by decide) x), fun x => hJ.f13 (upne (by decide) x), fun x => by have := hJ.f14 (upne (by decide) x); simpa only [upeq (l := listed) (i := 9) (j := 15) (by decide)] using this, fun x => by rw [upeq (by decide)]; exact hJ.f15 (upne (by decide) x)⟩, rfl⟩
   ·have ho' := Option.some.inj ho
    subst ho'
    have HS := Lib.hid hS
    have HJ := Lib.hid hJ
    clear hS hJ haf
    try unfold pt
    go_simp
    have hS := HS.out
    have hJ := HJ.out
    exact hK _ _ ⟨_, _, _, _, _, _, _, _, _, _, _, _, _, _, _, _, _, _, _, _, _, hS, ⟨fun x => hJ.f0 (upne (by decide) x), fun x => hJ.f1 (upne (by decide) x), fun x => hJ.f2 (upne (by decide) x), fun x => hJ.f3 (upne (by decide) x), fun x => hJ.f4 (upne (by decide) x), fun x => hJ.f5 (upne (by decide) x), fun x => hJ.f6 (upne (by decide) x), fun x => hJ.f7 (upne (by decide) x), fun x => hJ.f8 (upne (by decide) x), fun x => hJ.f9 (upne (by decide) x), fun _ => rfl, fun x => hJ.f11 (upne (by decide) x), fun x => hJ.f12 (upne (by decide) x), fun x => hJ.f13 (upne (by decide) x), fun x => by have := hJ.f14 (upne (by decide) x); simpa only [upeq (l := listed) (i := 10) (j := 15) (by decide)] using this, fun x => by rw [upeq (by decide)]; exact hJ.f15 (upne (by decide) x)⟩, rfl⟩
   ·have ho' := Option.some.inj ho
    subst ho'
    simp [Region.binds] at haf
    have p10 : listed.getD 10 true = true := waitsP (by simp [haf])
    obtain rfl := hJ.f10 p10
    have HS := Lib.hid hS
    have HJ := Lib.hid hJ
    clear hS hJ haf
    try unfold pt
    go_simp
    have hS := HS.out
    have hJ := HJ.out
    exact hK _ _ ⟨_, _, _, _, _, _, _, _, _, _, _, _, _, _, _, _, _, _, _, _, _, hS, ⟨fun x => hJ.f0 (upne (by decide) x), fun x => hJ.f1 (upne (by decide) x), fun x => hJ.f2 (upne (by decide) x), fun x => hJ.f3 (upne (by decide) x), fun x => hJ.f4 (upne (by decide) x), fun x => hJ.f5 (upne (by decide) x), fun x => hJ.f6 (upne (by decide) x), fun x => hJ.f7 (upne (by decide) x), fun x => hJ.f8 (upne (by decide) x), fun x => hJ.f9 (upne (by decide) x), fun x => hJ.f10 (upne (by decide) x), fun _ => rfl, fun x => hJ.f12 (upne (by decide) x), fun x => hJ.f13 (upne (by decide) x), fun x => by have := hJ.f14 (upne (by decide) x); simpa only [upeq (l := listed) (i := 11) (j := 15) (by decide)] using this, fun x => by rw [upeq (by decide)]; exact hJ.f15 (upne (by decide) x)⟩, rfl⟩
   ·have ho' := Option.some.inj ho
    subst ho'
    simp [Region.binds] at haf
    have p11 : listed.getD 11 true = true := waitsP (by simp [haf])
    obtain rfl := hJ.f11 p11
    have HS := Lib.hid hS
    have HJ := Lib.hid hJ
    clear hS hJ haf
    try unfold pt
    go_simp
    go_at_call 13
    refine (PC.out _).mono ?_
    rintro e w' ⟨rfl, rfl⟩
    have hS := HS.out
    have hJ := HJ.out
    exact hK _ _ ⟨_, _, _, _, _, _, _, _, _, _, _, _, _, _, _, _, _, _, _, _, _, hS, ⟨fun x => hJ.f0 (upne (by decide) x), fun x => hJ.f1 (upne (by decide) x), fun x => hJ.f2 (upne (by decide) x), fun x => hJ.f3 (upne (by decide) x), fun x => hJ.f4 (upne (by decide) x), fun x => hJ.f5 (upne (by decide) x), fun x => hJ.f6 (upne (by decide) x), fun x => hJ.f7 (upne (by decide) x), fun x => hJ.f8 (upne (by decide) x), fun x => hJ.f9 (upne (by decide) x), fun x => hJ.f10 (upne (by decide) x), fun x => hJ.f11 (upne (by decide) x), fun _ => rfl, fun x => hJ.f13 (upne (by decide) x), fun x => by have := hJ.f14 (upne (by decide) x); simpa only [upeq (l := listed) (i := 12) (j := 15) (by decide)] using this, fun x => by rw [upeq (by decide)]; exact hJ.f15 (upne (by decide) x)⟩, rfl⟩
   ·have ho' := Option.some.inj ho
    subst ho'
    simp [Region.binds] at haf
    have p3 : listed.getD 3 true = true := waitsP (by simp [haf])
    have p6 : listed.getD 6 true = true := waitsP (by simp [haf])
    have p9 : listed.getD 9 true = true := waitsP (by simp [haf])
    have p12 : listed.getD 12 true = true := waitsP (by simp [haf])
    obtain rfl := hJ.f3 p3
    obtain rfl := hJ.f6 p6
    obtain rfl := hJ.f9 p9
    obtain rfl := hJ.f12 p12
    have HS := Lib.hid hS
    have HJ := Lib.hid hJ
    clear hS hJ haf
    try unfold pt
    go_simp
    have hS := HS.out
    have hJ := HJ.out
    exact hK _ _ ⟨_, _, _, _, _, _, _, _, _, _, _, _, _, _, _, _, _, _, _, _, _, hS, ⟨fun x => hJ.f0 (upne (by decide) x), fun x => hJ.f1 (upne (by decide) x), fun x => hJ.f2 (upne (by decide) x), fun x => hJ.f3 (upne (by decide) x), fun x => hJ.f4 (upne (by decide) x), fun x => hJ.f5 (upne (by decide) x), fun x => hJ.f6 (upne (by decide) x), fun x => hJ.f7 (upne (by decide) x), fun x => hJ.f8 (upne (by decide) x), fun x => hJ.f9 (upne (by decide) x), fun x => hJ.f10 (upne (by decide) x), fun x => hJ.f11 (upne (by decide) x), fun x => hJ.f12 (upne (by decide) x), fun _ => rfl, fun x => by have := hJ.f14 (upne (by decide) x); simpa only [upeq (l := listed) (i := 13) (j := 15) (by decide)] using this, fun x => by rw [upeq (by decide)]; exact hJ.f15 (upne (by decide) x)⟩, rfl⟩
   ·have ho' := Option.some.inj ho
    subst ho'
    have HS := Lib.hid hS
    have HJ := Lib.hid hJ
    clear hS hJ haf
    try unfold pt
    go_simp
    have hS := HS.out
    have hJ := HJ.out
    have h15 : listed.getD 15 true = false := by
     rw [← Bool.not_eq_true]
     intro e
     have := hJ.f15 e
     rw [hl] at this
     cases this
    exact hK _ _ ⟨_, _, _, _, _, _, _, _, _, _, _, _, _, _, _, _, _, _, _, _, _, hS.new _, ⟨fun x => hJ.f0 (upne (by decide) x), fun x => hJ.f1 (upne (by decide) x), fun x => hJ.f2 (upne (by decide) x), fun x => hJ.f3 (upne (by decide) x), fun x => hJ.f4 (upne (by decide) x), fun x => hJ.f5 (upne (by decide) x), fun x => hJ.f6 (upne (by decide) x), fun x => hJ.f7 (upne (by decide) x), fun x => hJ.f8 (upne (by decide) x), fun x => hJ.f9 (upne (by decide) x), fun x => hJ.f10 (upne (by decide) x), fun x => hJ.f11 (upne (by decide) x), fun x => hJ.f12 (upne (by decide) x), fun x => hJ.f13 (upne (by decide) x), fun _ => ⟨_, rfl, by rw [upeq (by decide), if_neg (by rw [h15]; simp)]; exact PI.new hS _⟩, fun x => by rw [upeq (by decide), h15] at x; cases x⟩, rfl⟩
   ·have ho' := Option.some.inj ho
    subst ho'
    simp [Region.binds] at haf
    have p14 : listed.getD 14 true = true := waitsP (by simp [haf])
    have p13 : listed.getD 13 true = true := waitsP (by simp [haf])
    obtain ⟨g, rfl, hP⟩ := hJ.f14 p14
    rw [if_neg (by rw [hl]; simp)] at hP
    have z0 := hP.ins.cell 0
    have z1 := hP.ins.cell 1
    have z2 := hP.ins.cell 2
    have z3 := hP.ins.cell 3
    simp at z0 z1 z2 z3
    have zf0 := hP.ins.frozen 0
    have zf1 := hP.ins.frozen 1
    have zf2 := hP.ins.frozen 2
    have zf3 := hP.ins.frozen 3
    have HP' := Lib.hid hP
    clear hP
    obtain rfl := hJ.f13 p13
    have HS := Lib.hid hS
    have HJ := Lib.hid hJ
    clear hS hJ haf
    try unfold pt
    go_simp
    have hS := HS.out
    have hJ := HJ.out
    have hP := HP'.out
    exact hK _ _ ⟨_, _, _, _, _, _, _, _, _, _, _, _, _, _, _, _, _, _, _, _, _, (((hS.set hP 0 _).set (hP.set 0 _) 1 _).set ((hP.set 0 _).set 1 _) 2 _).set (((hP.set 0 _).set 1 _).set 2 _) 3 _, ⟨fun x => hJ.f0 (upne (by decide) x), fun x => hJ.f1 (upne (by decide) x), fun x => hJ.f2 (upne (by decide) x), fun x => hJ.f3 (upne (by decide) x), fun x => hJ.f4 (upne (by decide) x), fun x => hJ.f5 (upne (by decide) x), fun x => hJ.f6 (upne (by decide) x), fun x => hJ.f7 (upne (by decide) x), fun x => hJ.f8 (upne (by decide) x), fun x => hJ.f9 (upne (by decide) x), fun x => hJ.f10 (upne (by decide) x), fun x => hJ.f11 (upne (by decide) x), fun x => hJ.f12 (upne (by decide) x), fun x => hJ.f13 (upne (by decide) x), fun _ => ⟨g, rfl, by rw [if_pos upself]; exact (((hP.set 0 _).set 1 _).set 2 _).set 3 _⟩, fun _ => by rw [upeq (by decide)]; exact p14⟩, rfl⟩
  case fin =>
   intro listed a W hall hI
   obtain ⟨u7, y13, y14, y15, y16, y17, y18, y19, y20, y21, y22, y23, y24, y25, y26, y27, y28, y29, y30, y31, y32, hS, hJ, rfl⟩ := hI
   obtain ⟨g, rfl, hP⟩ := hJ.f14 (hall 14 (by decide))
   rw [if_pos (hall 15 (by decide))] at hP
   unfold pt
   go_wp2_with fail
   go_meet
   exact ⟨g, rfl, hS, hP⟩
 case rest =>
  obtain ⟨g, rfl, hS, hP⟩ := hcut
  obtain ⟨i0, hi0, hz0, hz1, hz2⟩ := info_parts info_InstrP
  have hU := Tryd.underlying56
  have x0 := hP.ins.cell 0
  have x1 := hP.ins.cell 1
  have x2 := hP.ins.cell 2
  have x3 := hP.ins.cell 3
  have f0 := hP.ins.frozen 0
  have f1 := hP.ins.frozen 1
  have f2 := hP.ins.frozen 2
  have f3 := hP.ins.frozen 3
  have r0 := hS.raw.cell 0
  have r1 := hS.raw.cell 1
  have r2 := hS.raw.cell 2
  have r3 := hS.raw.cell 3
  have hgw := hP.ins.lt
  have hne := hS.raw.ne_ hP.ins (by decide)
  simp at x0 x1 x2 x3 r0 r1 r2 r3
  have HX := Lib.hid (PX.mk hS hP)
  clear hS hP hS0 hV hB PK PA PB PC
  have hS := HSS.out
  clear HSS
  rcases hS with rfl | rfl | rfl | rfl | rfl | rfl | rfl | rfl | rfl | rfl | rfl | rfl | rfl | rfl
  ·simp at x0
   go_wp2_with (first | (at_builtin; (refine wpList_append_rd _ rfl (.tmp 110) (.tmp 112) _ rfl w0.heap.size 65 i0 _ 4 32 hU hi0 hz0 hz1 hz2 rfl (by omega) V k (insCells (plainTo l n k)) rfl ?own (wc.heap.size + 1) (some ⟨wc.heap.size, 0, none⟩) 1 1 (insCells [⟨1, (pa : Nat), 0, (q80 : Nat)⟩]) rfl ?rd (ins_one _) (by simp [maxLen]; omega) (by omega) ?bas ?_); (case own => (refine PXE.own (g6 := wr.heap.size) (g := g) (cr := #[.int .i64 rk, .int .i64 ra, .int .i64 rb, .int .i64 rc]) ?_; (repeat (first | exact ⟨_, HX.out⟩ | (with_reducible refine PXE.alloc ?_ _) | (with_reducible refine PXE.set ?_ _ _) | (with_reducible refine PXE.drew ?_))))); (case rd => exact ((Blk.new' (by simp)).rd 1 4 (by simp)).more (by simp)); (case bas => (have := HX.out.ps.below.size; simp; omega)); intro v1 w1 hv1 hg1 _) | (go_at_call 13; (first | (with_reducible refine (PQ80.out _).mono ?_) | (with_reducible refine (PQN.out _).mono ?_) | (with_reducible refine (PQ9.out _).mono ?_) | (with_reducible refine (PQ12.out _).mono ?_) | (with_reducible refine (PQM.out _).mono ?_) | (with_reducible refine (PQ3.out _).mono ?_)); rintro e w' ⟨rfl, rfl⟩))
   refine PWI.mk (g6 := wr.heap.size) (g := g) (cr := #[.int .i64 rk, .int .i64 ra, .int .i64 rb, .int .i64 rc]) ?_ hv1 hg1 HG.out (HP.out.trans ?_) hk rfl rfl rfl rfl rfl rfl rfl
   ·repeat (first | exact ⟨_, HX.out⟩ | (with_reducible refine PXE.alloc ?_ _) | (with_reducible refine PXE.set ?_ _ _) | (with_reducible refine PXE.drew ?_))
   ·rfl
  ·simp at x0
   go_wp2_with (first | (at_builtin; (refine wpList_append_rd _ rfl (.tmp 110) (.tmp 112) _ rfl w0.heap.size 65 i0 _ 4 32 hU hi0 hz0 hz1 hz2 rfl (by omega) V k (insCells (plainTo l n k)) rfl ?own (wc.heap.size + 1) (some ⟨wc.heap.size, 0, none⟩) 1 1 (insCells [⟨2, (pa : Nat), (pb : Nat), (pc : Nat)⟩]) rfl ?rd (ins_one _) (by simp [maxLen]; omega) (by omega) ?bas ?_); (case own => (refine PXE.own (g6 := wr.heap.size) (g := g) (cr := #[.int .i64 rk, .int .i64 ra, .int .i64 rb, .int .i64 rc]) ?_; (repeat (first | exact ⟨_, HX.out⟩ | (with_reducible refine PXE.alloc ?_ _) | (with_reducible refine PXE.set ?_ _ _) | (with_reducible refine PXE.drew ?_))))); (case rd => exact ((Blk.new' (by simp)).rd 1 4 (by simp)).more (by simp)); (case bas => (have := HX.out.ps.below.size; simp; omega)); intro v1 w1 hv1 hg1 _) | (go_at_call 13; (first | (with_reducible refine (PQ80.out _).mono ?_) | (with_reducible refine (PQN.out _).mono ?_) | (with_reducible refine (PQ9.out _).mono ?_) | (with_reducible refine (PQ12.out _).mono ?_) | (with_reducible refine (PQM.out _).mono ?_) | (with_reducible refine (PQ3.out _).mono ?_)); rintro e w' ⟨rfl, rfl⟩))
   refine PWI.mk (g6 := wr.heap.size) (g := g) (cr := #[.int .i64 rk, .int .i64 ra, .int .i64 rb, .int .i64 rc]) ?_ hv1 hg1 HG.out (HP.out.trans ?_) hk rfl rfl rfl rfl rfl rfl rfl
   ·repeat (first | exact ⟨_, HX.out⟩ | (with_reducible refine PXE.alloc ?_ _) | (with_reducible refine PXE.set ?_ _ _) | (with_reducible refine PXE.drew ?_))
   ·rfl
  ·simp at x0
   go_wp2_with (first | (at_builtin; (refine wpList_append_rd _ rfl (.tmp 110) (.tmp 112) _ rfl w0.heap.size 65 i0 _ 4 32 hU hi0 hz0 hz1 hz2 rfl (by omega) V k (insCells (plainTo l n k)) rfl ?own (wc.heap.size + 1) (some ⟨wc.heap.size, 0, none⟩) 1 1 (insCells [⟨3, (pa : Nat), (pb : Nat), (pc : Nat)⟩]) rfl ?rd (ins_one _) (by simp [maxLen]; omega) (by omega) ?bas ?_); (case own => (refine PXE.own (g6 := wr.heap.size) (g := g) (cr := #[.int .i64 rk, .int .i64 ra, .int .i64 rb, .int .i64 rc]) ?_; (repeat (first | exact ⟨_, HX.out⟩ | (with_reducible refine PXE.alloc ?_ _) | (with_reducible refine PXE.set ?_ _ _) | (with_reducible refine PXE.drew ?_))))); (case rd => exact ((Blk.new' (by simp)).rd 1 4 (by simp)).more (by simp)); (case bas => (have := HX.out.ps.below.size; simp; omega)); intro v1 w1 hv1 hg1 _) | (go_at_call 13; (first | (with_reducible refine (PQ80.out _).mono ?_) | (with_reducible refine (PQN.out _).mono ?_) | (with_reducible refine (PQ9.out _).mono ?_) | (with_reducible refine (PQ12.out _).mono ?_) | (with_reducible refine (PQM.out _).mono ?_) | (with_reducible refine (PQ3.out _).mono ?_)); rintro e w' ⟨rfl, rfl⟩))
   refine PWI.mk (g6 := wr.heap.size) (g := g) (cr := #[.int .i64 rk, .int .i64 ra, .int .i64 rb, .int .i64 rc]) ?_ hv1 hg1 HG.out (HP.out.trans ?_) hk rfl rfl rfl rfl rfl rfl rfl
   ·repeat (first | exact ⟨_, HX.out⟩ | (with_reducible refine PXE.alloc ?_ _) | (with_reducible refine PXE.set ?_ _ _) | (with_reducible refine PXE.drew ?_))
   ·rfl
  ·simp at x0
   go_wp2_with (first | (at_builtin; (refine wpList_append_rd _ rfl (.tmp 110) (.tmp 112) _ rfl w0.heap.size 65 i0 _ 4 32 hU hi0 hz0 hz1 hz2 rfl (by omega) V k (insCells (plainTo l n k)) rfl ?own (wc.heap.size + 1) (some ⟨wc.heap.size, 0, none⟩) 1 1 (insCells [⟨4, (pa : Nat), (pb : Nat), (pc : Nat)⟩]) rfl ?rd (ins_one _) (by simp [maxLen]; omega) (by omega) ?bas ?_); (case own => (refine PXE.own (g6 := wr.heap.size) (g := g) (cr := #[.int .i64 rk, .int .i64 ra, .int .i64 rb, .int .i64 rc]) ?_; (repeat (first | exact ⟨_, HX.out⟩ | (with_reducible refine PXE.alloc ?_ _) | (with_reducible refine PXE.set ?_ _ _) | (with_reducible refine PXE.drew ?_))))); (case rd => exact ((Blk.new' (by simp)).rd 1 4 (by simp)).more (by simp)); (case bas => (have := HX.out.ps.below.size; simp; omega)); intro v1 w1 hv1 hg1 _) | (go_at_call 13; (first | (with_reducible refine (PQ80.out _).mono ?_) | (with_reducible refine (PQN.out _).mono ?_) | (with_reducible refine (PQ9.out _).mono ?_) | (with_reducible refine (PQ12.out _).mono ?_) | (with_reducible refine (PQM.out _).mono ?_) | (with_reducible refine (PQ3.out _).mono ?_)); rintro e w' ⟨rfl, rfl⟩))
   refine PWI.mk (g6 := wr.heap.size) (g := g) (cr := #[.int .i64 rk, .int .i64 ra, .int .i64 rb, .int .i64 rc]) ?_ hv1 hg1 HG.out (HP.out.trans ?_) hk rfl rfl rfl rfl rfl rfl rfl
   ·repeat (first | exact ⟨_, HX.out⟩ | (with_reducible refine PXE.alloc ?_ _) | (with_reducible refine PXE.set ?_ _ _) | (with_reducible refine PXE.drew ?_))
   ·rfl
  ·simp at x0
   go_wp2_with (first | (at_builtin; (refine wpList_append_rd _ rfl (.tmp 110) (.tmp 112) _ rfl w0.heap.size 65 i0 _ 4 32 hU hi0 hz0 hz1 hz2 rfl (by omega) V k (insCells (plainTo l n k)) rfl ?own (wc.heap.size + 1) (some ⟨wc.heap.size, 0, none⟩) 1 1 (insCells [⟨5, (pa : Nat), (pb : Nat), (pc : Nat)⟩]) rfl ?rd (ins_one _) (by simp [maxLen]; omega) (by omega) ?bas ?_); (case own => (refine PXE.own (g6 := wr.heap.size) (g := g) (cr := #[.int .i64 rk, .int .i64 ra, .int .i64 rb, .int .i64 rc]) ?_; (repeat (first | exact ⟨_, HX.out⟩ | (with_reducible refine PXE.alloc ?_ _) | (with_reducible refine PXE.set ?_ _ _) | (with_reducible refine PXE.drew ?_))))); (case rd => exact ((Blk.new' (by simp)).rd 1 4 (by simp)).more (by simp)); (case bas => (have := HX.out.ps.below.size; simp; omega)); intro v1 w1 hv1 hg1 _) | (go_at_call 13; (first | (with_reducible refine (PQ80.out _).mono ?_) | (with_reducible refine (PQN.out _).mono ?_) | (with_reducible refine (PQ9.out _).mono ?_) | (with_reducible refine (PQ12.out _).mono ?_) | (with_reducible refine (PQM.out _).mono ?_) | (with_reducible refine (PQ3.out _).mono ?_)); rintro e w' ⟨rfl, rfl⟩))
   refine PWI.mk (g6 := wr.heap.size) (g := g) (cr := #[.int .i64 rk, .int .i64 ra, .int .i64 rb, .int .i64 rc]) ?_ hv1 hg1 HG.out (HP.out.trans ?_) hk rfl rfl rfl rfl rfl rfl rfl
   ·repeat (first | exact ⟨_, HX.out⟩ | (with_reducible refine PXE.alloc ?_ _) | (with_reducible refine PXE.set ?_ _ _) | (with_reducible refine PXE.drew ?_))
   ·rfl
  ·simp at x0
   go_wp2_with (first | (at_builtin; (refine wpList_append_rd _ rfl (.tmp 110) (.tmp 112) _ rfl w0.heap.size 65 i0 _ 4 32 hU hi0 hz0 hz1 hz2 rfl (by omega) V k (insCells (plainTo l n k)) rfl ?own (wc.heap.size + 1) (some ⟨wc.heap.size, 0, none⟩) 1 1 (insCells [⟨6, (pa : Nat), (pb : Nat), (pc : Nat)⟩]) rfl ?rd (ins_one _) (by simp [maxLen]; omega) (by omega) ?bas ?_); (case own => (refine PXE.own (g6 := wr.heap.size) (g := g) (cr := #[.int .i64 rk, .int .i64 ra, .int .i64 rb, .int .i64 rc]) ?_; (repeat (first | exact ⟨_, HX.out⟩ | (with_reducible refine PXE.alloc ?_ _) | (with_reducible refine PXE.set ?_ _ _) | (with_reducible refine PXE.drew ?_))))); (case rd => exact ((Blk.new' (by simp)).rd 1 4 (by simp)).more (by simp)); (case bas => (have := HX.out.ps.below.size; simp; omega)); intro v1 w1 hv1 hg1 _) | (go_at_call 13; (first | (with_reducible refine (PQ80.out _).mono ?_) | (with_reducible refine (PQN.out _).mono ?_) | (with_reducible refine (PQ9.out _).mono ?_) | (with_reducible refine (PQ12.out _).mono ?_) | (with_reducible refine (PQM.out _).mono ?_) | (with_reducible refine (PQ3.out _).mono ?_)); rintro e w' ⟨rfl, rfl⟩))
   refine PWI.mk (g6 := wr.heap.size) (g := g) (cr := #[.int .i64 rk, .int .i64 ra, .int .i64 rb, .int .i64 rc]) ?_ hv1 hg1 HG.out (HP.out.trans ?_) hk rfl rfl rfl rfl rfl rfl rfl
   ·repeat (first | exact ⟨_, HX.out⟩ | (with_reducible refine PXE.alloc ?_ _) | (with_reducible refine PXE.set ?_ _ _) | (with_reducible refine PXE.drew ?_))
   ·rfl
  ·simp at x0
   go_wp2_with (first | (at_builtin; (refine wpList_append_rd _ rfl (.tmp 110) (.tmp 112) _ rfl w0.heap.size 65 i0 _ 4 32 hU hi0 hz0 hz1 hz2 rfl (by omega) V k (insCells (plainTo l n k)) rfl ?own (wc.heap.size + 1) (some ⟨wc.heap.size, 0, none⟩) 1 1 (insCells [⟨7, (pa : Nat), (pb : Nat), (pc : Nat)⟩]) rfl ?rd (ins_one _) (by simp [maxLen]; omega) (by omega) ?bas ?_); (case own => (refine PXE.own (g6 := wr.heap.size) (g := g) (cr := #[.int .i64 rk, .int .i64 ra, .int .i64 rb, .int .i64 rc]) ?_; (repeat (first | exact ⟨_, HX.out⟩ | (with_reducible refine PXE.alloc ?_ _) | (with_reducible refine PXE.set ?_ _ _) | (with_reducible refine PXE.drew ?_))))); (case rd => exact ((Blk.new' (by simp)).rd 1 4 (by simp)).more (by simp)); (case bas => (have := HX.out.ps.below.size; simp; omega)); intro v1 w1 hv1 hg1 _) | (go_at_call 13; (first | (with_reducible refine (PQ80.out _).mono ?_) | (with_reducible refine (PQN.out _).mono ?_) | (with_reducible refine (PQ9.out _).mono ?_) | (with_reducible refine (PQ12.out _).mono ?_) | (with_reducible refine (PQM.out _).mono ?_) | (with_reducible refine (PQ3.out _).mono ?_)); rintro e w' ⟨rfl, rfl⟩))
   refine PWI.mk (g6 := wr.heap.size) (g := g) (cr := #[.int .i64 rk, .int .i64 ra, .int .i64 rb, .int .i64 rc]) ?_ hv1 hg1 HG.out (HP.out.trans ?_) hk rfl rfl rfl rfl rfl rfl rfl
   ·repeat (first | exact ⟨_, HX.out⟩ | (with_reducible refine PXE.alloc ?_ _) | (with_reducible refine PXE.set ?_ _ _) | (with_reducible refine PXE.drew ?_))
   ·rfl
  ·simp at x0
   go_wp2_with (first | (at_builtin; (refine wpList_append_rd _ rfl (.tmp 110) (.tmp 112) _ rfl w0.heap.size 65 i0 _ 4 32 hU hi0 hz0 hz1 hz2 rfl (by omega) V k (insCells (plainTo l n k)) rfl ?own (wc.heap.size + 1) (some ⟨wc.heap.size, 0, none⟩) 1 1 (insCells [⟨8, (pa : Nat), (pb : Nat), 0⟩]) rfl ?rd (ins_one _) (by simp [maxLen]; omega) (by omega) ?bas ?_); (case own => (refine PXE.own (g6 := wr.heap.size) (g := g) (cr := #[.int .i64 rk, .int .i64 ra, .int .i64 rb, .int .i64 rc]) ?_; (repeat (first | exact ⟨_, HX.out⟩ | (with_reducible refine PXE.alloc ?_ _) | (with_reducible refine PXE.set ?_ _ _) | (with_reducible refine PXE.drew ?_))))); (case rd => exact ((Blk.new' (by simp)).rd 1 4 (by simp)).more (by simp)); (case bas => (have := HX.out.ps.below.size; simp; omega)); intro v1 w1 hv1 hg1 _) | (go_at_call 13; (first | (with_reducible refine (PQ80.out _).mono ?_) | (with_reducible refine (PQN.out _).mono ?_) | (with_reducible refine (PQ9.out _).mono ?_) | (with_reducible refine (PQ12.out _).mono ?_) | (with_reducible refine (PQM.out _).mono ?_) | (with_reducible refine (PQ3.out _).mono ?_)); rintro e w' ⟨rfl, rfl⟩))
   refine PWI.mk (g6 := wr.heap.size) (g := g) (cr := #[.int .i64 rk, .int .i64 ra, .int .i64 rb, .int .i64 rc]) ?_ hv1 hg1 HG.out (HP.out.trans ?_) hk rfl rfl rfl rfl rfl rfl rfl
   ·repeat (first | exact ⟨_, HX.out⟩ | (with_reducible refine PXE.alloc ?_ _) | (with_reducible refine PXE.set ?_ _ _) | (with_reducible refine PXE.drew ?_))
   ·rfl
  ·simp at x0
   go_wp2_with (first | (at_builtin; (refine wpList_append_rd _ rfl (.tmp 110) (.tmp 112) _ rfl w0.heap.size 65 i0 _ 4 32 hU hi0 hz0 hz1 hz2 rfl (by omega) V k (insCells (plainTo l n k)) rfl ?own (wc.heap.size + 1) (some ⟨wc.heap.size, 0, none⟩) 1 1 (insCells [⟨9, (pa : Nat), (pb : Nat), 0⟩]) rfl ?rd (ins_one _) (by simp [maxLen]; omega) (by omega) ?bas ?_); (case own => (refine PXE.own (g6 := wr.heap.size) (g := g) (cr := #[.int .i64 rk, .int .i64 ra, .int .i64 rb, .int .i64 rc]) ?_; (repeat (first | exact ⟨_, HX.out⟩ | (with_reducible refine PXE.alloc ?_ _) | (with_reducible refine PXE.set ?_ _ _) | (with_reducible refine PXE.drew ?_))))); (case rd => exact ((Blk.new' (by simp)).rd 1 4 (by simp)).more (by simp)); (case bas => (have := HX.out.ps.below.size; simp; omega)); intro v1 w1 hv1 hg1 _) | (go_at_call 13; (first | (with_reducible refine (PQ80.out _).mono ?_) | (with_reducible refine (PQN.out _).mono ?_) | (with_reducible refine (PQ9.out _).mono ?_) | (with_reducible refine (PQ12.out _).mono ?_) | (with_reducible refine (PQM.out _).mono ?_) | (with_reducible refine (PQ3.out _).mono ?_)); rintro e w' ⟨rfl, rfl⟩))
   refine PWI.mk (g6 := wr.heap.size) (g := g) (cr := #[.int .i64 rk, .int .i64 ra, .int .i64 rb, .int .i64 rc]) ?_ hv1 hg1 HG.out (HP.out.trans ?_) hk rfl rfl rfl rfl rfl rfl rfl
   ·repeat (first | exact ⟨_, HX.out⟩ | (with_reducible refine PXE.alloc ?_ _) | (with_reducible refine PXE.set ?_ _ _) | (with_reducible refine PXE.drew ?_))
   ·rfl
  ·simp at x0
   by_cases hq : q12 = 0
   ·subst hq
    have y3 : (((wc.setCell ⟨g, 2, none⟩ (.int .i64 0)).setCell ⟨g, 3, none⟩ (.int .i64 ((k : Int) + (qn : Int)))).setCell ⟨g, 3, none⟩ (.int .i64 (qm : Int))).cell? ⟨g, 3, none⟩ = some (.int .i64 (qm : Int)) := (((((HX.out.set 2 (.int .i64 0)).set 3 (.int .i64 ((k : Int) + (qn : Int)))).set 3 (.int .i64 (qm : Int))).pi.ins.cell 3).trans rfl)
    go_wp2_with (first | (at_builtin; (refine wpList_append_rd _ rfl (.tmp 110) (.tmp 112) _ rfl w0.heap.size 65 i0 _ 4 32 hU hi0 hz0 hz1 hz2 rfl (by omega) V k (insCells (plainTo l n k)) rfl ?own (wc.heap.size + 1) (some ⟨wc.heap.size, 0, none⟩) 1 1 (insCells [⟨11, (pa : Nat), 0, (qm : Nat)⟩]) rfl ?rd (ins_one _) (by simp [maxLen]; omega) (by omega) ?bas ?_); (case own => (refine PXE.own (g6 := wr.heap.size) (g := g) (cr := #[.int .i64 rk, .int .i64 ra, .int .i64 rb, .int .i64 rc]) ?_; (repeat (first | exact ⟨_, HX.out⟩ | (with_reducible refine PXE.alloc ?_ _) | (with_reducible refine PXE.set ?_ _ _) | (with_reducible refine PXE.drew ?_))))); (case rd => exact ((Blk.new' (by simp)).rd 1 4 (by simp)).more (by simp)); (case bas => (have := HX.out.ps.below.size; simp; omega)); intro v1 w1 hv1 hg1 _) | (go_at_call 13; (first | (with_reducible refine (PQ80.out _).mono ?_) | (with_reducible refine (PQN.out _).mono ?_) | (with_reducible refine (PQ9.out _).mono ?_) | (with_reducible refine (PQ12.out _).mono ?_) | (with_reducible refine (PQM.out _).mono ?_) | (with_reducible refine (PQ3.out _).mono ?_)); rintro e w' ⟨rfl, rfl⟩))
    refine PWI.mk (g6 := wr.heap.size) (g := g) (cr := #[.int .i64 rk, .int .i64 ra, .int .i64 rb, .int .i64 rc]) ?_ hv1 hg1 HG.out (HP.out.trans ?_) hk rfl rfl rfl rfl rfl rfl rfl
    ·repeat (first | exact ⟨_, HX.out⟩ | (with_reducible refine PXE.alloc ?_ _) | (with_reducible refine PXE.set ?_ _ _) | (with_reducible refine PXE.drew ?_))
    ·rfl
   ·have hq2 : ¬ (q12 : Int) = 0 := by omega
    have hq3 : ((q12 : Int) == 0) = false := by rw [beq_eq_false_iff_ne]; exact hq2
    have HQ := Lib.hid hq
    clear hq
    go_wp2_with (first | (at_builtin; (refine wpList_append_rd _ rfl (.tmp 110) (.tmp 112) _ rfl w0.heap.size 65 i0 _ 4 32 hU hi0 hz0 hz1 hz2 rfl (by omega) V k (insCells (plainTo l n k)) rfl ?own (wc.heap.size + 1) (some ⟨wc.heap.size, 0, none⟩) 1 1 (insCells [⟨11, (pa : Nat), 0, ((k + qn : Nat) : Int)⟩]) rfl ?rd (ins_one _) (by simp [maxLen]; omega) (by omega) ?bas ?_); (case own => (refine PXE.own (g6 := wr.heap.size) (g := g) (cr := #[.int .i64 rk, .int .i64 ra, .int .i64 rb, .int .i64 rc]) ?_; (repeat (first | exact ⟨_, HX.out⟩ | (with_reducible refine PXE.alloc ?_ _) | (with_reducible refine PXE.set ?_ _ _) | (with_reducible refine PXE.drew ?_))))); (case rd => exact ((Blk.new' (by simp)).rd 1 4 (by simp)).more (by simp)); (case bas => (have := HX.out.ps.below.size; simp; omega)); intro v1 w1 hv1 hg1 _) | (go_at_call 13; (first | (with_reducible refine (PQ80.out _).mono ?_) | (with_reducible refine (PQN.out _).mono ?_) | (with_reducible refine (PQ9.out _).mono ?_) | (with_reducible refine (PQ12.out _).mono ?_) | (with_reducible refine (PQM.out _).mono ?_) | (with_reducible refine (PQ3.out _).mono ?_)); rintro e w' ⟨rfl, rfl⟩))
    refine PWI.mk (g6 := wr.heap.size) (g := g) (cr := #[.int .i64 rk, .int .i64 ra, .int .i64 rb, .int .i64 rc]) ?_ hv1 hg1 HG.out (HP.out.trans ?_) hk rfl rfl rfl rfl rfl rfl rfl
    ·repeat (first | exact ⟨_, HX.out⟩ | (with_reducible refine PXE.alloc ?_ _) | (with_reducible refine PXE.set ?_ _ _) | (with_reducible refine PXE.drew ?_))
    ·simp [plainV, HQ.out]
  ·simp at x0
   go_wp2_with (first | (at_builtin; (refine wpList_append_rd _ rfl (.tmp 110) (.tmp 112) _ rfl w0.heap.size 65 i0 _ 4 32 hU hi0 hz0 hz1 hz2 rfl (by omega) V k (insCells (plainTo l n k)) rfl ?own (wc.heap.size + 1) (some ⟨wc.heap.size, 0, none⟩) 1 1 (insCells [⟨14, (pa : Nat), 0, 0⟩]) rfl ?rd (ins_one _) (by simp [maxLen]; omega) (by omega) ?bas ?_); (case own => (refine PXE.own (g6 := wr.heap.size) (g := g) (cr := #[.int .i64 rk, .int .i64 ra, .int .i64 rb, .int .i64 rc]) ?_; (repeat (first | exact ⟨_, HX.out⟩ | (with_reducible refine PXE.alloc ?_ _) | (with_reducible refine PXE.set ?_ _ _) | (with_reducible refine PXE.drew ?_))))); (case rd => exact ((Blk.new' (by simp)).rd 1 4 (by simp)).more (by simp)); (case bas => (have := HX.out.ps.below.size; simp; omega)); intro v1 w1 hv1 hg1 _) | (go_at_call 13; (first | (with_reducible refine (PQ80.out _).mono ?_) | (with_reducible refine (PQN.out _).mono ?_) | (with_reducible refine (PQ9.out _).mono ?_) | (with_reducible refine (PQ12.out _).mono ?_) | (with_reducible refine (PQM.out _).mono ?_) | (with_reducible refine (PQ3.out _).mono ?_)); rintro e w' ⟨rfl, rfl⟩))
   refine PWI.mk (g6 := wr.heap.size) (g := g) (cr := #[.int .i64 rk, .int .i64 ra, .int .i64 rb, .int .i64 rc]) ?_ hv1 hg1 HG.out (HP.out.trans ?_) hk rfl rfl rfl rfl rfl rfl rfl
   ·repeat (first | exact ⟨_, HX.out⟩ | (with_reducible refine PXE.alloc ?_ _) | (with_reducible refine PXE.set ?_ _ _) | (with_reducible refine PXE.drew ?_))
   ·rfl
  ·simp at x0
   go_wp2_with fail
   go_cut [] from 13 (fun wx => PX w0 wx l n k V wr.heap.size #[.int .i64 rk, .int .i64 ra, .int .i64 rb, .int .i64 rc] g #[.int .i64 11, .int .i64 (pa : Int), .int .i64 0, .int .i64 ((k : Int) + (qn : Int))])
   case first =>
    refine wp_region_inv (fun listed a W => ∃ y13 y14 y15 y16 y17 y18 y19 y20 y21 y22 y23 y24 y25 y26 y27 y28 y29 y30 y31 y32 y33 y34 y35 y36 y37 y38 y39 y40 y41 y42 y43 y44 y45 y46 y47 y48 y49 y50 y51 y52 y53 y54 y55 y56 y57 y58 y59 y60, PJ2 w0 l n k V wr.heap.size g rk ra rb rc pa qn #[.int .i64 10, .int .i64 (pa : Int), .int .i64 (pb : Int), .int .i64 (pc : Int)] listed W y49 y50 y51 y52 y53 y54 y55 y56 y57 y58 y59 y60 ∧ a = ⟨#[.slice (some ⟨b, o, none⟩) l.length c, u 1, u 2, .int .i64 (n : Int), V, .int .i64 (k : Int), .pointer (some ⟨wr.heap.size, 0, none⟩), .pointer (some ⟨g, 0, none⟩), u 8, u 9, u 10, .int .i64 (n : Int), .int .i64 (k : Int), y13, y14, y15, y16, y17, y18, y19, y20, y21, y22, y23, y24, y25, y26, y27, y28, y29, y30, y31, y32, y33, y34, y35, y36, y37, y38, y39, y40, y41, y42, y43, y44, y45, y46, y47, y48, y49, y50, y51, y52, y53, y54, y55, y56, y57, y58, y59, y60, u61, u62, u63, u64, u65, u66, u67, u68, u69, u70, u71, u72, u73, u74, u75, u76, u77, u78, u79, u80, u81, u82, u83, u84, u85, u86, u87, u88, u89, u90, u91, u92, u93, u94, u95, u96, u97, u98, u99, u100, u101, u102, u103, u104, u105, u106, u107, u108, u109, u110, u111, u112, u113, u114, u115, u116, u117, u118], []⟩) (by kernel_rfl) (ord_of (by kernel_rfl)) ?start ?step ?fin
    case start => exact ⟨_, _, _, _, _, _, _, _, _, _, _, _, _, _, _, _, _, _, _, _, _, _, _, _, _, _, _, _, _, _, _, _, _, _, _, _, _, _, _, _, _, _, _, _, _, _, _, _, ⟨fun h => absurd h (by decide), fun h => absurd h (by decide), fun h => absurd h (by decide), fun h => absurd h (by decide), fun h => absurd h (by decide), fun h => absurd h (by decide), fun h => absurd h (by decide), fun h => absurd h (by decide), fun h => absurd h (by decide), fun h => absurd h (by decide), fun h => absurd h (by decide), fun h => absurd h (by decide), by rw [if_neg (by decide)]; exact HX.out.drew⟩, rfl⟩
    case step =>
     clear x0 x1 x2 x3 f0 f1 f2 f3 r0 r1 r2 r3 hgw
     intro i o ho listed a W hl haf hI K hK
     obtain ⟨y13, y14, y15, y16, y17, y18, y19, y20, y21, y22, y23, y24, y25, y26, y27, y28, y29, y30, y31, y32, y33, y34, y35, y36, y37, y38, y39, y40, y41, y42, y43, y44, y45, y46, y47, y48, y49, y50, y51, y52, y53, y54, y55, y56, y57, y58, y59, y60, hJ, rfl⟩ := hI
     have hi : i < 13 := (Array.getElem?_eq_some_iff.1 ho).1
     have h16 : i = 0 ∨ i = 1 ∨ i = 2 ∨ i = 3 ∨ i = 4 ∨ i = 5 ∨ i = 6 ∨ i = 7 ∨ i = 8 ∨ i = 9 ∨ i = 10 ∨ i = 11 ∨ i = 12 := by omega
     have rc3 := hJ.px.ps.raw.cell 3
     simp at rc3
     have hX' : listed.getD 12 true = false → PX w0 W l n k V wr.heap.size #[.int .i64 rk, .int .i64 ra, .int .i64 rb, .int .i64 rc] g #[.int .i64 10, .int .i64 (pa : Int), .int .i64 (pb : Int), .int .i64 (pc : Int)] := fun h => by have := hJ.px; rw [if_neg (by rw [h]; simp)] at this; exact this
     rcases h16 with rfl | rfl | rfl | rfl | rfl | rfl | rfl | rfl | rfl | rfl | rfl | rfl | rfl
     ·have ho' := Option.some.inj ho
      subst ho'
      have HJ := Lib.hid hJ
      clear hJ haf hX'
      try unfold pt
      go_simp
      have hJ := HJ.out
      exact hK _ _ ⟨_, _, _, _, _, _, _, _, _, _, _, _, _, _, _, _, _, _, _, _, _, _, _, _, _, _, _, _, _, _, _, _, _, _, _, _, _, _, _, _, _, _, _, _, _, _, _, _, ⟨fun _ => rfl, fun x => hJ.f1 (upne (by decide) x), fun x => hJ.f2 (upne (by decide) x), fun x => hJ.f3 (upne (by decide) x), fun x => hJ.f4 (upne (by decide) x), fun x => hJ.f5 (upne (by decide) x), fun x => hJ.f6 (upne (by decide) x), fun x => hJ.f7 (upne (by decide) x), fun x => hJ.f8 (upne (by decide) x), fun x => hJ.f9 (upne (by decide) x), fun x => hJ.f10 (upne (by decide) x), fun x => hJ.f11 (upne (by decide) x), by rw [upeq (by decide)]; exact hJ.px⟩, rfl⟩
     ·have ho' := Option.some.inj ho
      subst ho'
      simp [Region.binds] at haf
      have p0 : listed.getD 0 true = true := waitsP (by simp [haf])
      obtain rfl := hJ.f0 p0
      have xx : W.cell? ⟨g, 1, none⟩ = some (.int .i64 (pa : Int)) := by
       have h := hJ.px.pi.ins.cell 1
       rw [h]; split <;> rfl
      have HJ := Lib.hid hJ
      clear hJ haf hX'
      try unfold pt
      go_simp
      have hJ := HJ.out
      exact hK _ _ ⟨_, _, _, _, _, _, _, _, _, _, _, _, _, _, _, _, _, _, _, _, _, _, _, _, _, _, _, _, _, _, _, _, _, _, _, _, _, _, _, _, _, _, _, _, _, _, _, _, ⟨fun x => hJ.f0 (upne (by decide) x), fun _ => rfl, fun x => hJ.f2 (upne (by decide) x), fun x => hJ.f3 (upne (by decide) x), fun x => hJ.f4 (upne (by decide) x), fun x => hJ.f5 (upne (by decide) x), fun x => hJ.f6 (upne (by decide) x), fun x => hJ.f7 (upne (by decide) x), fun x => hJ.f8 (upne (by decide) x), fun x => hJ.f9 (upne (by decide) x), fun x => hJ.f10 (upne (by decide) x), fun x => hJ.f11 (upne (by decide) x), by rw [upeq (by decide)]; exact hJ.px⟩, rfl⟩
     ·have ho' := Option.some.inj ho
      subst ho'
      have HJ := Lib.hid hJ
      clear hJ haf hX'
      try unfold pt
      go_simp
      have hJ := HJ.out
      exact hK _ _ ⟨_, _, _, _, _, _, _, _, _, _, _, _, _, _, _, _, _, _, _, _, _, _, _, _, _, _, _, _, _, _, _, _, _, _, _, _, _, _, _, _, _, _, _, _, _, _, _, _, ⟨fun x => hJ.f0 (upne (by decide) x), fun x => hJ.f1 (upne (by decide) x), fun _ => rfl, fun x => hJ.f3 (upne (by decide) x), fun x => hJ.f4 (upne (by decide) x), fun x => hJ.f5 (upne (by decide) x), fun x => hJ.f6 (upne (by decide) x), fun x => hJ.f7 (upne (by decide) x), fun x => hJ.f8 (upne (by decide) x), fun x => hJ.f9 (upne (by decide) x), fun x => hJ.f10 (upne (by decide) x), fun x => hJ.f11 (upne (by decide) x), by rw [upeq (by decide)]; exact hJ.px⟩, rfl⟩
     ·have ho' := Option.some.inj ho
      subst ho'
      have HJ := Lib.hid hJ
      clear hJ haf hX'
      try unfold pt
      go_simp
      have hJ := HJ.out
      exact hK _ _ ⟨_, _, _, _, _, _, _, _, _, _, _, _, _, _, _, _, _, _, _, _, _, _, _, _, _, _, _, _, _, _, _, _, _, _, _, _, _, _, _, _, _, _, _, _, _, _, _, _, ⟨fun x => hJ.f0 (upne (by decide) x), fun x => hJ.f1 (upne (by decide) x), fun x => hJ.f2 (upne (by decide) x), fun _ => rfl, fun x => hJ.f4 (upne (by decide) x), fun x => hJ.f5 (upne (by decide) x), fun x => hJ.f6 (upne (by decide) x), fun x => hJ.f7 (upne (by decide) x), fun x => hJ.f8 (upne (by decide) x), fun x => hJ.f9 (upne (by decide) x), fun x => hJ.f10 (upne (by decide) x), fun x => hJ.f11 (upne (by decide) x), by rw [upeq (by decide)]; exact hJ.px⟩, rfl⟩
     ·have ho' := Option.some.inj ho
      subst ho'
      simp [Region.binds] at haf
      have p3 : listed.getD 3 true = true := waitsP (by simp [haf])
      obtain rfl := hJ.f3 p3
      have HJ := Lib.hid hJ
      clear hJ haf hX'
      try unfold pt
      go_simp
      have hJ := HJ.out
      exact hK _ _ ⟨_, _, _, _, _, _, _, _, _, _, _, _, _, _, _, _, _, _, _, _, _, _, _, _, _, _, _, _, _, _, _, _, _, _, _, _, _, _, _, _, _, _, _, _, _, _, _, _, ⟨fun x => hJ.f0 (upne (by decide) x), fun x => hJ.f1 (upne (by decide) x), fun x => hJ.f2 (upne (by decide) x), fun x => hJ.f3 (upne (by decide) x), fun _ => rfl, fun x => hJ.f5 (upne (by decide) x), fun x => hJ.f6 (upne (by decide) x), fun x => hJ.f7 (upne (by decide) x), fun x => hJ.f8 (upne (by decide) x), fun x => hJ.f9 (upne (by decide) x), fun x => hJ.f10 (upne (by decide) x), fun x => hJ.f11 (upne (by decide) x), by rw [upeq (by decide)]; exact hJ.px⟩, rfl⟩
     ·have ho' := Option.some.inj ho
      subst ho'
      have HJ := Lib.hid hJ
      clear hJ haf hX'
      try unfold pt
      go_simp
      have hJ := HJ.out
      exact hK _ _ ⟨_, _, _, _, _, _, _, _, _, _, _, _, _, _, _, _, _, _, _, _, _, _, _, _, _, _, _, _, _, _, _, _, _, _, _, _, _, _, _, _, _, _, _, _, _, _, _, _, ⟨fun x => hJ.f0 (upne (by decide) x), fun x => hJ.f1 (upne (by decide) x), fun x => hJ.f2 (upne (by decide) x), fun x => hJ.f3 (upne (by decide) x), fun x => hJ.f4 (upne (by decide) x), fun _ => rfl, fun x => hJ.f6 (upne (by decide) x), fun x => hJ.f7 (upne (by decide) x), fun x => hJ.f8 (upne (by decide) x), fun x => hJ.f9 (upne (by decide) x), fun x => hJ.f10 (upne (by decide) x), fun x => hJ.f11 (upne (by decide) x), by rw [upeq (by decide)]; exact hJ.px⟩, rfl⟩
     ·have ho' := Option.some.inj ho
      subst ho'
      simp [Region.binds] at haf
      have p5 : listed.getD 5 true = true := waitsP (by simp [haf])
      obtain rfl := hJ.f5 p5
      have HJ := Lib.hid hJ
      clear hJ haf hX'
      try unfold pt
      go_simp
      try simp only [Go.IntWalk.i64_in ((n : Int) + 1) (by omega)]
      have hJ := HJ.out
      exact hK _ _ ⟨_, _, _, _, _, _, _, _, _, _, _, _, _, _, _, _, _, _, _, _, _, _, _, _, _, _, _, _, _, _, _, _, _, _, _, _, _, _, _, _, _, _, _, _, _, _, _, _, ⟨fun x => hJ.f0 (upne (by decide) x), fun x => hJ.f1 (upne (by decide) x), fun x => hJ.f2 (upne (by decide) x), fun x => hJ.f3 (upne (by decide) x), fun x => hJ.f4 (upne (by decide) x), fun x => hJ.f5 (upne (by decide) x), fun _ => rfl, fun x => hJ.f7 (upne (by decide) x), fun x => hJ.f8 (upne (by decide) x), fun x => hJ.f9 (upne (by decide) x), fun x => hJ.f10 (upne (by decide) x), fun x => hJ.f11 (upne (by decide) x), by rw [upeq (by decide)]; exact hJ.px⟩, rfl⟩
     ·have ho' := Option.some.inj ho
      subst ho'
      have HJ := Lib.hid hJ
      clear hJ haf hX'
      try unfold pt
      go_simp
      have hJ := HJ.out
      exact hK _ _ ⟨_, _, _, _, _, _, _, _, _, _, _, _, _, _, _, _, _, _, _, _, _, _, _, _, _, _, _, _, _, _, _, _, _, _, _, _, _, _, _, _, _, _, _, _, _, _, _, _, ⟨fun x => hJ.f0 (upne (by decide) x), fun x => hJ.f1 (upne (by decide) x), fun x => hJ.f2 (upne (by decide) x), fun x => hJ.f3 (upne (by decide) x), fun x => hJ.f4 (upne (by decide) x), fun x => hJ.f5 (upne (by decide) x), fun x => hJ.f6 (upne (by decide) x), fun _ => rfl, fun x => hJ.f8 (upne (by decide) x), fun x => hJ.f9 (upne (by decide) x), fun x => hJ.f10 (upne (by decide) x), fun x => hJ.f11 (upne (by decide) x), by rw [upeq (by decide)]; exact hJ.px⟩, rfl⟩
     ·have ho' := Option.some.inj ho
      subst ho'
      simp [Region.binds] at haf
      have p6 : listed.getD 6 true = true := waitsP (by simp [haf])
      have p7 : listed.getD 7 true = true := waitsP (by simp [haf])
      obtain rfl := hJ.f6 p6
      obtain rfl := hJ.f7 p7
      have HJ := Lib.hid hJ
      clear hJ haf hX'
      try unfold pt
      go_simp
      try simp only [Go.IntWalk.i64_in ((n : Int) + 1 - (k : Int)) (by omega)]
      have hJ := HJ.out
      exact hK _ _ ⟨_, _, _, _, _, _, _, _, _, _, _, _, _, _, _, _, _, _, _, _, _, _, _, _, _, _, _, _, _, _, _, _, _, _, _, _, _, _, _, _, _, _, _, _, _, _, _, _, ⟨fun x => hJ.f0 (upne (by decide) x), fun x => hJ.f1 (upne (by decide) x), fun x => hJ.f2 (upne (by decide) x), fun x => hJ.f3 (upne (by decide) x), fun x => hJ.f4 (upne (by decide) x), fun x => hJ.f5 (upne (by decide) x), fun x => hJ.f6 (upne (by decide) x), fun x => hJ.f7 (upne (by decide) x), fun _ => rfl, fun x => hJ.f9 (upne (by decide) x), fun x => hJ.f10 (upne (by decide) x), fun x => hJ.f11 (upne (by decide) x), by rw [upeq (by decide)]; exact hJ.px⟩, rfl⟩
     ·have ho' := Option.some.inj ho
      subst ho'
      simp [Region.binds] at haf
      have p4 : listed.getD 4 true = true := waitsP (by simp [haf])
      have p8 : listed.getD 8 true = true := waitsP (by simp [haf])
      obtain rfl := hJ.f4 p4
      obtain rfl := hJ.f8 p8
      have HJ := Lib.hid hJ
      clear hJ haf hX'
      try unfold pt
      go_simp
      go_at_call 13
      refine (PQN.out _).mono ?_
      rintro e w' ⟨rfl, rfl⟩
      have hJ := HJ.out
      exact hK _ _ ⟨_, _, _, _, _, _, _, _, _, _, _, _, _, _, _, _, _, _, _, _, _, _, _, _, _, _, _, _, _, _, _, _, _, _, _, _, _, _, _, _, _, _, _, _, _, _, _, _, ⟨fun x => hJ.f0 (upne (by decide) x), fun x => hJ.f1 (upne (by decide) x), fun x => hJ.f2 (upne (by decide) x), fun x => hJ.f3 (upne (by decide) x), fun x => hJ.f4 (upne (by decide) x), fun x => hJ.f5 (upne (by decide) x), fun x => hJ.f6 (upne (by decide) x), fun x => hJ.f7 (upne (by decide) x), fun x => hJ.f8 (upne (by decide) x), fun _ => rfl, fun x => hJ.f10 (upne (by decide) x), fun x => hJ.f11 (upne (by decide) x), by rw [upeq (by decide)]; exact hJ.px⟩, rfl⟩
     ·have ho' := Option.some.inj ho
      subst ho'
      simp [Region.binds] at haf
      have p2 : listed.getD 2 true = true := waitsP (by simp [haf])
      have p9 : listed.getD 9 true = true := waitsP (by simp [haf])
      obtain rfl := hJ.f2 p2
      obtain rfl := hJ.f9 p9
      have HJ := Lib.hid hJ
      clear hJ haf hX'
      try unfold pt
      go_simp
      try simp only [Go.IntWalk.i64_in ((k : Int) + (qn : Int)) (by omega)]
      have hJ := HJ.out
      exact hK _ _ ⟨_, _, _, _, _, _, _, _, _, _, _, _, _, _, _, _, _, _, _, _, _, _, _, _, _, _, _, _, _, _, _, _, _, _, _, _, _, _, _, _, _, _, _, _, _, _, _, _, ⟨fun x => hJ.f0 (upne (by decide) x), fun x => hJ.f1 (upne (by decide) x), fun x => hJ.f2 (upne (by decide) x), fun x => hJ.f3 (upne (by decide) x), fun x => hJ.f4 (upne (by decide) x), fun x => hJ.f5 (upne (by decide) x), fun x => hJ.f6 (upne (by decide) x), fun x => hJ.f7 (upne (by decide) x), fun x => hJ.f8 (upne (by decide) x), fun x => hJ.f9 (upne (by decide) x), fun _ => rfl, fun x => hJ.f11 (upne (by decide) x), by rw [upeq (by decide)]; exact hJ.px⟩, rfl⟩
     ·have ho' := Option.some.inj ho
      subst ho'
      simp [Region.binds] at haf
      have p1 : listed.getD 1 true = true := waitsP (by simp [haf])
      have p10 : listed.getD 10 true = true := waitsP (by simp [haf])
      obtain rfl := hJ.f1 p1
      obtain rfl := hJ.f10 p10
      have HJ := Lib.hid hJ
      clear hJ haf hX'
      try unfold pt
      go_simp
      have hJ := HJ.out
      exact hK _ _ ⟨_, _, _, _, _, _, _, _, _, _, _, _, _, _, _, _, _, _, _, _, _, _, _, _, _, _, _, _, _, _, _, _, _, _, _, _, _, _, _, _, _, _, _, _, _, _, _, _, ⟨fun x => hJ.f0 (upne (by decide) x), fun x => hJ.f1 (upne (by decide) x), fun x => hJ.f2 (upne (by decide) x), fun x => hJ.f3 (upne (by decide) x), fun x => hJ.f4 (upne (by decide) x), fun x => hJ.f5 (upne (by decide) x), fun x => hJ.f6 (upne (by decide) x), fun x => hJ.f7 (upne (by decide) x), fun x => hJ.f8 (upne (by decide) x), fun x => hJ.f9 (upne (by decide) x), fun x => hJ.f10 (upne (by decide) x), fun _ => rfl, by rw [upeq (by decide)]; exact hJ.px⟩, rfl⟩
     ·have ho' := Option.some.inj ho
      subst ho'
      simp [Region.binds] at haf
      have p11 : listed.getD 11 true = true := waitsP (by simp [haf])
      obtain rfl := hJ.f11 p11
      have hP := (hX' hl).pi
      have z0 := hP.ins.cell 0
      have z1 := hP.ins.cell 1
      have z2 := hP.ins.cell 2
      have z3 := hP.ins.cell 3
      simp at z0 z1 z2 z3
      have zf0 := hP.ins.frozen 0
      have zf1 := hP.ins.frozen 1
      have zf2 := hP.ins.frozen 2
      have zf3 := hP.ins.frozen 3
      clear hP
      have HX2 := Lib.hid (hX' hl)
      have HJ := Lib.hid hJ
      clear hJ haf hX'
      try unfold pt
      go_simp
      have hJ := HJ.out
      exact hK _ _ ⟨_, _, _, _, _, _, _, _, _, _, _, _, _, _, _, _, _, _, _, _, _, _, _, _, _, _, _, _, _, _, _, _, _, _, _, _, _, _, _, _, _, _, _, _, _, _, _, _, ⟨fun x => hJ.f0 (upne (by decide) x), fun x => hJ.f1 (upne (by decide) x), fun x => hJ.f2 (upne (by decide) x), fun x => hJ.f3 (upne (by decide) x), fun x => hJ.f4 (upne (by decide) x), fun x => hJ.f5 (upne (by decide) x), fun x => hJ.f6 (upne (by decide) x), fun x => hJ.f7 (upne (by decide) x), fun x => hJ.f8 (upne (by decide) x), fun x => hJ.f9 (upne (by decide) x), fun x => hJ.f10 (upne (by decide) x), fun x => hJ.f11 (upne (by decide) x), by rw [if_pos upself]; exact (((HX2.out.set 0 _).set 1 _).set 2 _).set 3 _⟩, rfl⟩
    case fin =>
     intro listed a W hall hI
     obtain ⟨y13, y14, y15, y16, y17, y18, y19, y20, y21, y22, y23, y24, y25, y26, y27, y28, y29, y30, y31, y32, y33, y34, y35, y36, y37, y38, y39, y40, y41, y42, y43, y44, y45, y46, y47, y48, y49, y50, y51, y52, y53, y54, y55, y56, y57, y58, y59, y60, hJ, rfl⟩ := hI
     have hX := hJ.px
     rw [if_pos (hall 12 (by decide))] at hX
     clear x0 x1 x2 x3 f0 f1 f2 f3 r0 r1 r2 r3 hgw
     go_wp2_with fail
     go_meet
     exact hX
   case rest =>
    clear x0 x1 x2 x3 f0 f1 f2 f3 r0 r1 r2 r3 hgw HX
    have x0 := hcut.pi.ins.cell 0
    have x1 := hcut.pi.ins.cell 1
    have x2 := hcut.pi.ins.cell 2
    have x3 := hcut.pi.ins.cell 3
    have f0 := hcut.pi.ins.frozen 0
    have f1 := hcut.pi.ins.frozen 1
    have f2 := hcut.pi.ins.frozen 2
    have f3 := hcut.pi.ins.frozen 3
    have r0 := hcut.ps.raw.cell 0
    have r1 := hcut.ps.raw.cell 1
    have r2 := hcut.ps.raw.cell 2
    have r3 := hcut.ps.raw.cell 3
    have hgw := hcut.pi.ins.lt
    simp at x0 x1 x2 x3 r0 r1 r2 r3
    have HX := Lib.hid hcut
    clear hcut
    by_cases hq : q9 = 0
    ·subst hq
     go_wp2_with (first | (at_builtin; (refine wpList_append_rd _ rfl (.tmp 110) (.tmp 112) _ rfl w0.heap.size 65 i0 _ 4 32 hU hi0 hz0 hz1 hz2 rfl (by omega) V k (insCells (plainTo l n k)) rfl ?own (wc.heap.size + 1) (some ⟨wc.heap.size, 0, none⟩) 1 1 (insCells [⟨12, 0, 0, ((k + qn : Nat) : Int)⟩]) rfl ?rd (ins_one _) (by simp [maxLen]; omega) (by omega) ?bas ?_); (case own => (refine PXE.own (g6 := wr.heap.size) (g := g) (cr := #[.int .i64 rk, .int .i64 ra, .int .i64 rb, .int .i64 rc]) ?_; (repeat (first | exact ⟨_, HX.out⟩ | (with_reducible refine PXE.alloc ?_ _) | (with_reducible refine PXE.set ?_ _ _) | (with_reducible refine PXE.drew ?_))))); (case rd => exact ((Blk.new' (by simp)).rd 1 4 (by simp)).more (by simp)); (case bas => (have := HX.out.ps.below.size; simp; omega)); intro v1 w1 hv1 hg1 _) | (go_at_call 13; (first | (with_reducible refine (PQ80.out _).mono ?_) | (with_reducible refine (PQN.out _).mono ?_) | (with_reducible refine (PQ9.out _).mono ?_) | (with_reducible refine (PQ12.out _).mono ?_) | (with_reducible refine (PQM.out _).mono ?_) | (with_reducible refine (PQ3.out _).mono ?_)); rintro e w' ⟨rfl, rfl⟩))
     refine PWI.mk (g6 := wr.heap.size) (g := g) (cr := #[.int .i64 rk, .int .i64 ra, .int .i64 rb, .int .i64 rc]) ?_ hv1 hg1 HG.out (HP.out.trans ?_) hk rfl rfl rfl rfl rfl rfl rfl
     ·repeat (first | exact ⟨_, HX.out⟩ | (with_reducible refine PXE.alloc ?_ _) | (with_reducible refine PXE.set ?_ _ _) | (with_reducible refine PXE.drew ?_))
     ·rfl
    ·have hq2 : ¬ (q9 : Int) = 0 := by omega
     have hq3 : ((q9 : Int) == 0) = false := by rw [beq_eq_false_iff_ne]; exact hq2
     have HQ := Lib.hid hq
     clear hq
     go_wp2_with (first | (at_builtin; (refine wpList_append_rd _ rfl (.tmp 110) (.tmp 112) _ rfl w0.heap.size 65 i0 _ 4 32 hU hi0 hz0 hz1 hz2 rfl (by omega) V k (insCells (plainTo l n k)) rfl ?own (wc.heap.size + 1) (some ⟨wc.heap.size, 0, none⟩) 1 1 (insCells [⟨11, (pa : Nat), 0, ((k + qn : Nat) : Int)⟩]) rfl ?rd (ins_one _) (by simp [maxLen]; omega) (by omega) ?bas ?_); (case own => (refine PXE.own (g6 := wr.heap.size) (g := g) (cr := #[.int .i64 rk, .int .i64 ra, .int .i64 rb, .int .i64 rc]) ?_; (repeat (first | exact ⟨_, HX.out⟩ | (with_reducible refine PXE.alloc ?_ _) | (with_reducible refine PXE.set ?_ _ _) | (with_reducible refine PXE.drew ?_))))); (case rd => exact ((Blk.new' (by simp)).rd 1 4 (by simp)).more (by simp)); (case bas => (have := HX.out.ps.below.size; simp; omega)); intro v1 w1 hv1 hg1 _) | (go_at_call 13; (first | (with_reducible refine (PQ80.out _).mono ?_) | (with_reducible refine (PQN.out _).mono ?_) | (with_reducible refine (PQ9.out _).mono ?_) | (with_reducible refine (PQ12.out _).mono ?_) | (with_reducible refine (PQM.out _).mono ?_) | (with_reducible refine (PQ3.out _).mono ?_)); rintro e w' ⟨rfl, rfl⟩))
     refine PWI.mk (g6 := wr.heap.size) (g := g) (cr := #[.int .i64 rk, .int .i64 ra, .int .i64 rb, .int .i64 rc]) ?_ hv1 hg1 HG.out (HP.out.trans ?_) hk rfl rfl rfl rfl rfl rfl rfl
     ·repeat (first | exact ⟨_, HX.out⟩ | (with_reducible refine PXE.alloc ?_ _) | (with_reducible refine PXE.set ?_ _ _) | (with_reducible refine PXE.drew ?_))
     ·simp [plainV, HQ.out]
  ·simp at x0
   go_wp2_with fail
   go_cut [] from 13 (fun wx => PX w0 wx l n k V wr.heap.size #[.int .i64 rk, .int .i64 ra, .int .i64 rb, .int .i64 rc] g #[.int .i64 11, .int .i64 (pa : Int), .int .i64 0, .int .i64 ((k : Int) + (qn : Int))])
   case first =>
    refine wp_region_inv (fun listed a W => ∃ y13 y14 y15 y16 y17 y18 y19 y20 y21 y22 y23 y24 y25 y26 y27 y28 y29 y30 y31 y32 y33 y34 y35 y36 y37 y38 y39 y40 y41 y42 y43 y44 y45 y46 y47 y48 y49 y50 y51 y52 y53 y54 y55 y56 y57 y58 y59 y60, PJ2 w0 l n k V wr.heap.size g rk ra rb rc pa qn #[.int .i64 12, .int .i64 (pa : Int), .int .i64 (pb : Int), .int .i64 (pc : Int)] listed W y49 y50 y51 y52 y53 y54 y55 y56 y57 y58 y59 y60 ∧ a = ⟨#[.slice (some ⟨b, o, none⟩) l.length c, u 1, u 2, .int .i64 (n : Int), V, .int .i64 (k : Int), .pointer (some ⟨wr.heap.size, 0, none⟩), .pointer (some ⟨g, 0, none⟩), u 8, u 9, u 10, .int .i64 (n : Int), .int .i64 (k : Int), y13, y14, y15, y16, y17, y18, y19, y20, y21, y22, y23, y24, y25, y26, y27, y28, y29, y30, y31, y32, y33, y34, y35, y36, y37, y38, y39, y40, y41, y42, y43, y44, y45, y46, y47, y48, y49, y50, y51, y52, y53, y54, y55, y56, y57, y58, y59, y60, u61, u62, u63, u64, u65, u66, u67, u68, u69, u70, u71, u72, u73, u74, u75, u76, u77, u78, u79, u80, u81, u82, u83, u84, u85, u86, u87, u88, u89, u90, u91, u92, u93, u94, u95, u96, u97, u98, u99, u100, u101, u102, u103, u104, u105, u106, u107, u108, u109, u110, u111, u112, u113, u114, u115, u116, u117, u118], []⟩) (by kernel_rfl) (ord_of (by kernel_rfl)) ?start ?step ?fin
    case start => exact ⟨_, _, _, _, _, _, _, _, _, _, _, _, _, _, _, _, _, _, _, _, _, _, _, _, _, _, _, _, _, _, _, _, _, _, _, _, _, _, _, _, _, _, _, _, _, _, _, _, ⟨fun h => absurd h (by decide), fun h => absurd h (by decide), fun h => absurd h (by decide), fun h => absurd h (by decide), fun h => absurd h (by decide), fun h => absurd h (by decide), fun h => absurd h (by decide), fun h => absurd h (by decide), fun h => absurd h (by decide), fun h => absurd h (by decide), fun h => absurd h (by decide), fun h => absurd h (by decide), by rw [if_neg (by decide)]; exact HX.out.drew⟩, rfl⟩
    case step =>
     clear x0 x1 x2 x3 f0 f1 f2 f3 r0 r1 r2 r3 hgw
     intro i o ho listed a W hl haf hI K hK
     obtain ⟨y13, y14, y15, y16, y17, y18, y19, y20, y21, y22, y23, y24, y25, y26, y27, y28, y29, y30, y31, y32, y33, y34, y35, y36, y37, y38, y39, y40, y41, y42, y43, y44, y45, y46, y47, y48, y49, y50, y51, y52, y53, y54, y55, y56, y57, y58, y59, y60, hJ, rfl⟩ := hI
     have hi : i < 13 := (Array.getElem?_eq_some_iff.1 ho).1
     have h16 : i = 0 ∨ i = 1 ∨ i = 2 ∨ i = 3 ∨ i = 4 ∨ i = 5 ∨ i = 6 ∨ i = 7 ∨ i = 8 ∨ i = 9 ∨ i = 10 ∨ i = 11 ∨ i = 12 := by omega
     have rc3 := hJ.px.ps.raw.cell 3
     simp at rc3
     have hX' : listed.getD 12 true = false → PX w0 W l n k V wr.heap.size #[.int .i64 rk, .int .i64 ra, .int .i64 rb, .int .i64 rc] g #[.int .i64 12, .int .i64 (pa : Int), .int .i64 (pb : Int), .int .i64 (pc : Int)] := fun h => by have := hJ.px; rw [if_neg (by rw [h]; simp)] at this; exact this
     rcases h16 with rfl | rfl | rfl | rfl | rfl | rfl | rfl | rfl | rfl | rfl | rfl | rfl | rfl
     ·have ho' := Option.some.inj ho
      subst ho'
      have HJ := Lib.hid hJ
      clear hJ haf hX'
      try unfold pt
      go_simp
      have hJ := HJ.out
      exact hK _ _ ⟨_, _, _, _, _, _, _, _, _, _, _, _, _, _, _, _, _, _, _, _, _, _, _, _, _, _, _, _, _, _, _, _, _, _, _, _, _, _, _, _, _, _, _, _, _, _, _, _, ⟨fun _ => rfl, fun x => hJ.f1 (upne (by decide) x), fun x => hJ.f2 (upne (by decide) x), fun x => hJ.f3 (upne (by decide) x), fun x => hJ.f4 (upne (by decide) x), fun x => hJ.f5 (upne (by decide) x), fun x => hJ.f6 (upne (by decide) x), fun x => hJ.f7 (upne (by decide) x), fun x => hJ.f8 (upne (by decide) x), fun x => hJ.f9 (upne (by decide) x), fun x => hJ.f10 (upne (by decide) x), fun x => hJ.f11 (upne (by decide) x), by rw [upeq (by decide)]; exact hJ.px⟩, rfl⟩
     ·have ho' := Option.some.inj ho
      subst ho'
      simp [Region.binds] at haf
      have p0 : listed.getD 0 true = true := waitsP (by simp [haf])
      obtain rfl := hJ.f0 p0
      have xx : W.cell? ⟨g, 1, none⟩ = some (.int .i64 (pa : Int)) := by
       have h := hJ.px.pi.ins.cell 1
       rw [h]; split <;> rfl
      have HJ := Lib.hid hJ
      clear hJ haf hX'
      try unfold pt
      go_simp
      have hJ := HJ.out
      exact hK _ _ ⟨_, _, _, _, _, _, _, _, _, _, _, _, _, _, _, _, _, _, _, _, _, _, _, _, _, _, _, _, _, _, _, _, _, _, _, _, _, _, _, _, _, _, _, _, _, _, _, _, ⟨fun x => hJ.f0 (upne (by decide) x), fun _ => rfl, fun x => hJ.f2 (upne (by decide) x), fun x => hJ.f3 (upne (by decide) x), fun x => hJ.f4 (upne (by decide) x), fun x => hJ.f5 (upne (by decide) x), fun x => hJ.f6 (upne (by decide) x), fun x => hJ.f7 (upne (by decide) x), fun x => hJ.f8 (upne (by decide) x), fun x => hJ.f9 (upne (by decide) x), fun x => hJ.f10 (upne (by decide) x), fun x => hJ.f11 (upne (by decide) x), by rw [upeq (by decide)]; exact hJ.px⟩, rfl⟩
     ·have ho' := Option.some.inj ho
      subst ho'
      have HJ := Lib.hid hJ
      clear hJ haf hX'
      try unfold pt
      go_simp
      have hJ := HJ.out
      exact hK _ _ ⟨_, _, _, _, _, _, _, _, _, _, _, _, _, _, _, _, _, _, _, _, _, _, _, _, _, _, _, _, _, _, _, _, _, _, _, _, _, _, _, _, _, _, _, _, _, _, _, _, ⟨fun x => hJ.f0 (upne (by decide) x), fun x => hJ.f1 (upne (by decide) x), fun _ => rfl, fun x => hJ.f3 (upne (by decide) x), fun x => hJ.f4 (upne (by decide) x), fun x => hJ.f5 (upne (by decide) x), fun x => hJ.f6 (upne (by decide) x), fun x => hJ.f7 (upne (by decide) x), fun x => hJ.f8 (upne (by decide) x), fun x => hJ.f9 (upne (by decide) x), fun x => hJ.f10 (upne (by decide) x), fun x => hJ.f11 (upne (by decide) x), by rw [upeq (by decide)]; exact hJ.px⟩, rfl⟩
     ·have ho' := Option.some.inj ho
      subst ho'
      have HJ := Lib.hid hJ
      clear hJ haf hX'
      try unfold pt
      go_simp
      have hJ := HJ.out
      exact hK _ _ ⟨_, _, _, _, _, _, _, _, _, _, _, _, _, _, _, _, _, _, _, _, _, _, _, _, _, _, _, _, _, _, _, _, _, _, _, _, _, _, _, _, _, _, _, _, _, _, _, _, ⟨fun x => hJ.f0 (upne (by decide) x), fun x => hJ.f1 (upne (by decide) x), fun x => hJ.f2 (upne (by decide) x), fun _ => rfl, fun x => hJ.f4 (upne (by decide) x), fun x => hJ.f5 (upne (by decide) x), fun x => hJ.f6 (upne (by decide) x), fun x => hJ.f7 (upne (by decide) x), fun x => hJ.f8 (upne (by decide) x), fun x => hJ.f9 (upne (by decide) x), fun x => hJ.f10 (upne (by decide) x), fun x => hJ.f11 (upne (by decide) x), by rw [upeq (by decide)]; exact hJ.px⟩, rfl⟩
     ·have ho' := Option.some.inj ho
      subst ho'
      simp [Region.binds] at haf
      have p3 : listed.getD 3 true = true := waitsP (by simp [haf])
      obtain rfl := hJ.f3 p3
      have HJ := Lib.hid hJ
      clear hJ haf hX'
      try unfold pt
      go_simp
      have hJ := HJ.out
      exact hK _ _ ⟨_, _, _, _, _, _, _, _, _, _, _, _, _, _, _, _, _, _, _, _, _, _, _, _, _, _, _, _, _, _, _, _, _, _, _, _, _, _, _, _, _, _, _, _, _, _, _, _, ⟨fun x => hJ.f0 (upne (by decide) x), fun x => hJ.f1 (upne (by decide) x), fun x => hJ.f2 (upne (by decide) x), fun x => hJ.f3 (upne (by decide) x), fun _ => rfl, fun x => hJ.f5 (upne (by decide) x), fun x => hJ.f6 (upne (by decide) x), fun x => hJ.f7 (upne (by decide) x), fun x => hJ.f8 (upne (by decide) x), fun x => hJ.f9 (upne (by decide) x), fun x => hJ.f10 (upne (by decide) x), fun x => hJ.f11 (upne (by decide) x), by rw [upeq (by decide)]; exact hJ.px⟩, rfl⟩
     ·have ho' := Option.some.inj ho
      subst ho'
      have HJ := Lib.hid hJ
      clear hJ haf hX'
      try unfold pt
      go_simp
      have hJ := HJ.out
      exact hK _ _ ⟨_, _, _, _, _, _, _, _, _, _, _, _, _, _, _, _, _, _, _, _, _, _, _, _, _, _, _, _, _, _, _, _, _, _, _, _, _, _, _, _, _, _, _, _, _, _, _, _, ⟨fun x => hJ.f0 (upne (by decide) x), fun x => hJ.f1 (upne (by decide) x), fun x => hJ.f2 (upne (by decide) x), fun x => hJ.f3 (upne (by decide) x), fun x => hJ.f4 (upne (by decide) x), fun _ => rfl, fun x => hJ.f6 (upne (by decide) x), fun x => hJ.f7 (upne (by decide) x), fun x => hJ.f8 (upne (by decide) x), fun x => hJ.f9 (upne (by decide) x), fun x => hJ.f10 (upne (by decide) x), fun x => hJ.f11 (upne (by decide) x), by rw [upeq (by decide)]; exact hJ.px⟩, rfl⟩
     ·have ho' := Option.some.inj ho
      subst ho'
      simp [Region.binds] at haf
      have p5 : listed.getD 5 true = true := waitsP (by simp [haf])
      obtain rfl := hJ.f5 p5
      have HJ := Lib.hid hJ
      clear hJ haf hX'
      try unfold pt
      go_simp
      try simp only [Go.IntWalk.i64_in ((n : Int) + 1) (by omega)]
      have hJ := HJ.out
      exact hK _ _ ⟨_, _, _, _, _, _, _, _, _, _, _, _, _, _, _, _, _, _, _, _, _, _, _, _, _, _, _, _, _, _, _, _, _, _, _, _, _, _, _, _, _, _, _, _, _, _, _, _, ⟨fun x => hJ.f0 (upne (by decide) x), fun x => hJ.f1 (upne (by decide) x), fun x => hJ.f2 (upne (by decide) x), fun x => hJ.f3 (upne (by decide) x), fun x => hJ.f4 (upne (by decide) x), fun x => hJ.f5 (upne (by decide) x), fun _ => rfl, fun x => hJ.f7 (upne (by decide) x), fun x => hJ.f8 (upne (by decide) x), fun x => hJ.f9 (upne (by decide) x), fun x => hJ.f10 (upne (by decide) x), fun x => hJ.f11 (upne (by decide) x), by rw [upeq (by decide)]; exact hJ.px⟩, rfl⟩
     ·have ho' := Option.some.inj ho
      subst ho'
      have HJ := Lib.hid hJ
      clear hJ haf hX'
      try unfold pt
      go_simp
      have hJ := HJ.out
      exact hK _ _ ⟨_, _, _, _, _, _, _, _, _, _, _, _, _, _, _, _, _, _, _, _, _, _, _, _, _, _, _, _, _, _, _, _, _, _, _, _, _, _, _, _, _, _, _, _, _, _, _, _, ⟨fun x => hJ.f0 (upne (by decide) x), fun x => hJ.f1 (upne (by decide) x), fun x => hJ.f2 (upne (by decide) x), fun x => hJ.f3 (upne (by decide) x), fun x => hJ.f4 (upne (by decide) x), fun x => hJ.f5 (upne (by decide) x), fun x => hJ.f6 (upne (by decide) x), fun _ => rfl, fun x => hJ.f8 (upne (by decide) x), fun x => hJ.f9 (upne (by decide) x), fun x => hJ.f10 (upne (by decide) x), fun x => hJ.f11 (upne (by decide) x), by rw [upeq (by decide)]; exact hJ.px⟩, rfl⟩
     ·have ho' := Option.some.inj ho
      subst ho'
      simp [Region.binds] at haf
      have p6 : listed.getD 6 true = true := waitsP (by simp [haf])
      have p7 : listed.getD 7 true = true := waitsP (by simp [haf])
      obtain rfl := hJ.f6 p6
      obtain rfl := hJ.f7 p7
      have HJ := Lib.hid hJ
      clear hJ haf hX'
      try unfold pt
      go_simp
      try simp only [Go.IntWalk.i64_in ((n : Int) + 1 - (k : Int)) (by omega)]
      have hJ := HJ.out
      exact hK _ _ ⟨_, _, _, _, _, _, _, _, _, _, _, _, _, _, _, _, _, _, _, _, _, _, _, _, _, _, _, _, _, _, _, _, _, _, _, _, _, _, _, _, _, _, _, _, _, _, _, _, ⟨fun x => hJ.f0 (upne (by decide) x), fun x => hJ.f1 (upne (by decide) x), fun x => hJ.f2 (upne (by decide) x), fun x => hJ.f3 (upne (by decide) x), fun x => hJ.f4 (upne (by decide) x), fun x => hJ.f5 (upne (by decide) x), fun x => hJ.f6 (upne (by decide) x), fun x => hJ.f7 (upne (by decide) x), fun _ => rfl, fun x => hJ.f9 (upne (by decide) x), fun x => hJ.f10 (upne (by decide) x), fun x => hJ.f11 (upne (by decide) x), by rw [upeq (by decide)]; exact hJ.px⟩, rfl⟩
     ·have ho' := Option.some.inj ho
      subst ho'
      simp [Region.binds] at haf
      have p4 : listed.getD 4 true = true := waitsP (by simp [haf])
      have p8 : listed.getD 8 true = true := waitsP (by simp [haf])
      obtain rfl := hJ.f4 p4
      obtain rfl := hJ.f8 p8
      have HJ := Lib.hid hJ
      clear hJ haf hX'
      try unfold pt
      go_simp
      go_at_call 13
      refine (PQN.out _).mono ?_
      rintro e w' ⟨rfl, rfl⟩
      have hJ := HJ.out
      exact hK _ _ ⟨_, _, _, _, _, _, _, _, _, _, _, _, _, _, _, _, _, _, _, _, _, _, _, _, _, _, _, _, _, _, _, _, _, _, _, _, _, _, _, _, _, _, _, _, _, _, _, _, ⟨fun x => hJ.f0 (upne (by decide) x), fun x => hJ.f1 (upne (by decide) x), fun x => hJ.f2 (upne (by decide) x), fun x => hJ.f3 (upne (by decide) x), fun x => hJ.f4 (upne (by decide) x), fun x => hJ.f5 (upne (by decide) x), fun x => hJ.f6 (upne (by decide) x), fun x => hJ.f7 (upne (by decide) x), fun x => hJ.f8 (upne (by decide) x), fun _ => rfl, fun x => hJ.f10 (upne (by decide) x), fun x => hJ.f11 (upne (by decide) x), by rw [upeq (by decide)]; exact hJ.px⟩, rfl⟩
     ·have ho' := Option.some.inj ho
      subst ho'
      simp [Region.binds] at haf
      have p2 : listed.getD 2 true = true := waitsP (by simp [haf])
      have p9 : listed.getD 9 true = true := waitsP (by simp [haf])
      obtain rfl := hJ.f2 p2
      obtain rfl := hJ.f9 p9
      have HJ := Lib.hid hJ
      clear hJ haf hX'
      try unfold pt
      go_simp
      try simp only [Go.IntWalk.i64_in ((k : Int) + (qn : Int)) (by omega)]
      have hJ := HJ.out
      exact hK _ _ ⟨_, _, _, _, _, _, _, _, _, _, _, _, _, _, _, _, _, _, _, _, _, _, _, _, _, _, _, _, _, _, _, _, _, _, _, _, _, _, _, _, _, _, _, _, _, _, _, _, ⟨fun x => hJ.f0 (upne (by decide) x), fun x => hJ.f1 (upne (by decide) x), fun x => hJ.f2 (upne (by decide) x), fun x => hJ.f3 (upne (by decide) x), fun x => hJ.f4 (upne (by decide) x), fun x => hJ.f5 (upne (by decide) x), fun x => hJ.f6 (upne (by decide) x), fun x => hJ.f7 (upne (by decide) x), fun x => hJ.f8 (upne (by decide) x), fun x => hJ.f9 (upne (by decide) x), fun _ => rfl, fun x => hJ.f11 (upne (by decide) x), by rw [upeq (by decide)]; exact hJ.px⟩, rfl⟩
     ·have ho' := Option.some.inj ho
      subst ho'
      simp [Region.binds] at haf
      have p1 : listed.getD 1 true = true := waitsP (by simp [haf])
      have p10 : listed.getD 10 true = true := waitsP (by simp [haf])
      obtain rfl := hJ.f1 p1
      obtain rfl := hJ.f10 p10
      have HJ := Lib.hid hJ
      clear hJ haf hX'
      try unfold pt
      go_simp
      have hJ := HJ.out
      exact hK _ _ ⟨_, _, _, _, _, _, _, _, _, _, _, _, _, _, _, _, _, _, _, _, _, _, _, _, _, _, _, _, _, _, _, _, _, _, _, _, _, _, _, _, _, _, _, _, _, _, _, _, ⟨fun x => hJ.f0 (upne (by decide) x), fun x => hJ.f1 (upne (by decide) x), fun x => hJ.f2 (upne (by decide) x), fun x => hJ.f3 (upne (by decide) x), fun x => hJ.f4 (upne (by decide) x), fun x => hJ.f5 (upne (by decide) x), fun x => hJ.f6 (upne (by decide) x), fun x => hJ.f7 (upne (by decide) x), fun x => hJ.f8 (upne (by decide) x), fun x => hJ.f9 (upne (by decide) x), fun x => hJ.f10 (upne (by decide) x), fun _ => rfl, by rw [upeq (by decide)]; exact hJ.px⟩, rfl⟩
     ·have ho' := Option.some.inj ho
      subst ho'
      simp [Region.binds] at haf
      have p11 : listed.getD 11 true = true := waitsP (by simp [haf])
      obtain rfl := hJ.f11 p11
      have hP := (hX' hl).pi
      have z0 := hP.ins.cell 0
      have z1 := hP.ins.cell 1
      have z2 := hP.ins.cell 2
      have z3 := hP.ins.cell 3
      simp at z0 z1 z2 z3
      have zf0 := hP.ins.frozen 0
      have zf1 := hP.ins.frozen 1
      have zf2 := hP.ins.frozen 2
      have zf3 := hP.ins.frozen 3
      clear hP
      have HX2 := Lib.hid (hX' hl)
      have HJ := Lib.hid hJ
      clear hJ haf hX'
      try unfold pt
      go_simp
      have hJ := HJ.out
      exact hK _ _ ⟨_, _, _, _, _, _, _, _, _, _, _, _, _, _, _, _, _, _, _, _, _, _, _, _, _, _, _, _, _, _, _, _, _, _, _, _, _, _, _, _, _, _, _, _, _, _, _, _, ⟨fun x => hJ.f0 (upne (by decide) x), fun x => hJ.f1 (upne (by decide) x), fun x => hJ.f2 (upne (by decide) x), fun x => hJ.f3 (upne (by decide) x), fun x => hJ.f4 (upne (by decide) x), fun x => hJ.f5 (upne (by decide) x), fun x => hJ.f6 (upne (by decide) x), fun x => hJ.f7 (upne (by decide) x), fun x => hJ.f8 (upne (by decide) x), fun x => hJ.f9 (upne (by decide) x), fun x => hJ.f10 (upne (by decide) x), fun x => hJ.f11 (upne (by decide) x), by rw [if_pos upself]; exact (((HX2.out.set 0 _).set 1 _).set 2 _).set 3 _⟩, rfl⟩
    case fin =>
     intro listed a W hall hI
     obtain ⟨y13, y14, y15, y16, y17, y18, y19, y20, y21, y22, y23, y24, y25, y26, y27, y28, y29, y30, y31, y32, y33, y34, y35, y36, y37, y38, y39, y40, y41, y42, y43, y44, y45, y46, y47, y48, y49, y50, y51, y52, y53, y54, y55, y56, y57, y58, y59, y60, hJ, rfl⟩ := hI
     have hX := hJ.px
     rw [if_pos (hall 12 (by decide))] at hX
     clear x0 x1 x2 x3 f0 f1 f2 f3 r0 r1 r2 r3 hgw
     go_wp2_with fail
     go_meet
     exact hX
   case rest =>
    clear x0 x1 x2 x3 f0 f1 f2 f3 r0 r1 r2 r3 hgw HX
    have x0 := hcut.pi.ins.cell 0
    have x1 := hcut.pi.ins.cell 1
    have x2 := hcut.pi.ins.cell 2
    have x3 := hcut.pi.ins.cell 3
    have f0 := hcut.pi.ins.frozen 0
    have f1 := hcut.pi.ins.frozen 1
    have f2 := hcut.pi.ins.frozen 2
    have f3 := hcut.pi.ins.frozen 3
    have r0 := hcut.ps.raw.cell 0
    have r1 := hcut.ps.raw.cell 1
    have r2 := hcut.ps.raw.cell 2
    have r3 := hcut.ps.raw.cell 3
    have hgw := hcut.pi.ins.lt
    simp at x0 x1 x2 x3 r0 r1 r2 r3
    have HX := Lib.hid hcut
    clear hcut
    by_cases hq : q9 = 0
    ·subst hq
     go_wp2_with (first | (at_builtin; (refine wpList_append_rd _ rfl (.tmp 110) (.tmp 112) _ rfl w0.heap.size 65 i0 _ 4 32 hU hi0 hz0 hz1 hz2 rfl (by omega) V k (insCells (plainTo l n k)) rfl ?own (wc.heap.size + 1) (some ⟨wc.heap.size, 0, none⟩) 1 1 (insCells [⟨12, 0, 0, ((k + qn : Nat) : Int)⟩]) rfl ?rd (ins_one _) (by simp [maxLen]; omega) (by omega) ?bas ?_); (case own => (refine PXE.own (g6 := wr.heap.size) (g := g) (cr := #[.int .i64 rk, .int .i64 ra, .int .i64 rb, .int .i64 rc]) ?_; (repeat (first | exact ⟨_, HX.out⟩ | (with_reducible refine PXE.alloc ?_ _) | (with_reducible refine PXE.set ?_ _ _) | (with_reducible refine PXE.drew ?_))))); (case rd => exact ((Blk.new' (by simp)).rd 1 4 (by simp)).more (by simp)); (case bas => (have := HX.out.ps.below.size; simp; omega)); intro v1 w1 hv1 hg1 _) | (go_at_call 13; (first | (with_reducible refine (PQ80.out _).mono ?_) | (with_reducible refine (PQN.out _).mono ?_) | (with_reducible refine (PQ9.out _).mono ?_) | (with_reducible refine (PQ12.out _).mono ?_) | (with_reducible refine (PQM.out _).mono ?_) | (with_reducible refine (PQ3.out _).mono ?_)); rintro e w' ⟨rfl, rfl⟩))
     refine PWI.mk (g6 := wr.heap.size) (g := g) (cr := #[.int .i64 rk, .int .i64 ra, .int .i64 rb, .int .i64 rc]) ?_ hv1 hg1 HG.out (HP.out.trans ?_) hk rfl rfl rfl rfl rfl rfl rfl
     ·repeat (first | exact ⟨_, HX.out⟩ | (with_reducible refine PXE.alloc ?_ _) | (with_reducible refine PXE.set ?_ _ _) | (with_reducible refine PXE.drew ?_))
     ·rfl
    ·have hq2 : ¬ (q9 : Int) = 0 := by omega
     have hq3 : ((q9 : Int) == 0) = false := by rw [beq_eq_false_iff_ne]; exact hq2
     have HQ := Lib.hid hq
     clear hq
     go_wp2_with (first | (at_builtin; (refine wpList_append_rd _ rfl (.tmp 110) (.tmp 112) _ rfl w0.heap.size 65 i0 _ 4 32 hU hi0 hz0 hz1 hz2 rfl (by omega) V k (insCells (plainTo l n k)) rfl ?own (wc.heap.size + 1) (some ⟨wc.heap.size, 0, none⟩) 1 1 (insCells [⟨11, (pa : Nat), 0, ((k + qn : Nat) : Int)⟩]) rfl ?rd (ins_one _) (by simp [maxLen]; omega) (by omega) ?bas ?_); (case own => (refine PXE.own (g6 := wr.heap.size) (g := g) (cr := #[.int .i64 rk, .int .i64 ra, .int .i64 rb, .int .i64 rc]) ?_; (repeat (first | exact ⟨_, HX.out⟩ | (with_reducible refine PXE.alloc ?_ _) | (with_reducible refine PXE.set ?_ _ _) | (with_reducible refine PXE.drew ?_))))); (case rd => exact ((Blk.new' (by simp)).rd 1 4 (by simp)).more (by simp)); (case bas => (have := HX.out.ps.below.size; simp; omega)); intro v1 w1 hv1 hg1 _) | (go_at_call 13; (first | (with_reducible refine (PQ80.out _).mono ?_) | (with_reducible refine (PQN.out _).mono ?_) | (with_reducible refine (PQ9.out _).mono ?_) | (with_reducible refine (PQ12.out _).mono ?_) | (with_reducible refine (PQM.out _).mono ?_) | (with_reducible refine (PQ3.out _).mono ?_)); rintro e w' ⟨rfl, rfl⟩))
     refine PWI.mk (g6 := wr.heap.size) (g := g) (cr := #[.int .i64 rk, .int .i64 ra, .int .i64 rb, .int .i64 rc]) ?_ hv1 hg1 HG.out (HP.out.trans ?_) hk rfl rfl rfl rfl rfl rfl rfl
     ·repeat (first | exact ⟨_, HX.out⟩ | (with_reducible refine PXE.alloc ?_ _) | (with_reducible refine PXE.set ?_ _ _) | (with_reducible refine PXE.drew ?_))
     ·simp [plainV, HQ.out]
  ·simp at x0
   go_wp2_with fail
   generalize hwd : (((wc.setCell ⟨g, 0, none⟩ (.int .i64 13)).setCell ⟨g, 1, none⟩ (.int .i64 0)).setCell ⟨g, 2, none⟩ (.int .i64 0)).setCell ⟨g, 3, none⟩ (.int .i64 0) = wd
   have HX2 := Lib.hid (show PX w0 wd l n k V wr.heap.size #[.int .i64 rk, .int .i64 ra, .int .i64 rb, .int .i64 rc] g #[.int .i64 13, .int .i64 0, .int .i64 0, .int .i64 0] from hwd ▸ ((((HX.out.set 0 _).set 1 _).set 2 _).set 3 _))
   clear hwd HX x0 x1 x2 x3 f0 f1 f2 f3 r0 r1 r2 r3 hgw
   have x0 := HX2.out.pi.ins.cell 0
   have x1 := HX2.out.pi.ins.cell 1
   have x2 := HX2.out.pi.ins.cell 2
   have x3 := HX2.out.pi.ins.cell 3
   have f0 := HX2.out.pi.ins.frozen 0
   have f1 := HX2.out.pi.ins.frozen 1
   have f2 := HX2.out.pi.ins.frozen 2
   have f3 := HX2.out.pi.ins.frozen 3
   have r0 := HX2.out.ps.raw.cell 0
   have r1 := HX2.out.ps.raw.cell 1
   have r2 := HX2.out.ps.raw.cell 2
   have r3 := HX2.out.ps.raw.cell 3
   have hgw := HX2.out.pi.ins.lt
   simp at x0 x1 x2 x3 r0 r1 r2 r3
   go_at_call 13
   refine (PQ3.out _).mono ?_
   rintro e w' ⟨rfl, rfl⟩
   have HX := HX2
   clear HX2
   by_cases hq : 0 < q3
   ·have hq2 : (0 : Int) < (q3 : Int) := by omega
    have HQ := Lib.hid hq
    clear hq
    go_wp2_with (first | (at_builtin; (refine wpList_append_rd _ rfl (.tmp 110) (.tmp 112) _ rfl w0.heap.size 65 i0 _ 4 32 hU hi0 hz0 hz1 hz2 rfl (by omega) V k (insCells (plainTo l n k)) rfl ?own (wd.heap.size + 1) (some ⟨wd.heap.size, 0, none⟩) 1 1 (insCells [⟨2, 1, 2, 3⟩]) rfl ?rd (ins_one _) (by simp [maxLen]; omega) (by omega) ?bas ?_); (case own => (refine PXE.own (g6 := wr.heap.size) (g := g) (cr := #[.int .i64 rk, .int .i64 ra, .int .i64 rb, .int .i64 rc]) ?_; (repeat (first | exact ⟨_, HX.out⟩ | (with_reducible refine PXE.alloc ?_ _) | (with_reducible refine PXE.set ?_ _ _) | (with_reducible refine PXE.drew ?_))))); (case rd => exact ((Blk.new' (by simp)).rd 1 4 (by simp)).more (by simp)); (case bas => (have := HX.out.ps.below.size; simp; omega)); intro v1 w1 hv1 hg1 _) | (go_at_call 13; (first | (with_reducible refine (PQ80.out _).mono ?_) | (with_reducible refine (PQN.out _).mono ?_) | (with_reducible refine (PQ9.out _).mono ?_) | (with_reducible refine (PQ12.out _).mono ?_) | (with_reducible refine (PQM.out _).mono ?_) | (with_reducible refine (PQ3.out _).mono ?_)); rintro e w' ⟨rfl, rfl⟩))
    refine PWI.mk (g6 := wr.heap.size) (g := g) (cr := #[.int .i64 rk, .int .i64 ra, .int .i64 rb, .int .i64 rc]) ?_ hv1 hg1 HG.out (HP.out.trans ?_) hk rfl rfl rfl rfl rfl rfl rfl
    ·repeat (first | exact ⟨_, HX.out⟩ | (with_reducible refine PXE.alloc ?_ _) | (with_reducible refine PXE.set ?_ _ _) | (with_reducible refine PXE.drew ?_))
    ·simp [plainV, HQ.out]
   ·have hq2 : ¬ (0 : Int) < (q3 : Int) := by omega
    have HQ := Lib.hid hq
    clear hq
    go_wp2_with (first | (at_builtin; (refine wpList_append_rd _ rfl (.tmp 110) (.tmp 112) _ rfl w0.heap.size 65 i0 _ 4 32 hU hi0 hz0 hz1 hz2 rfl (by omega) V k (insCells (plainTo l n k)) rfl ?own (wd.heap.size + 1) (some ⟨wd.heap.size, 0, none⟩) 1 1 (insCells [⟨13, 0, 0, 0⟩]) rfl ?rd (ins_one _) (by simp [maxLen]; omega) (by omega) ?bas ?_); (case own => (refine PXE.own (g6 := wr.heap.size) (g := g) (cr := #[.int .i64 rk, .int .i64 ra, .int .i64 rb, .int .i64 rc]) ?_; (repeat (first | exact ⟨_, HX.out⟩ | (with_reducible refine PXE.alloc ?_ _) | (with_reducible refine PXE.set ?_ _ _) | (with_reducible refine PXE.drew ?_))))); (case rd => exact ((Blk.new' (by simp)).rd 1 4 (by simp)).more (by simp)); (case bas => (have := HX.out.ps.below.size; simp; omega)); intro v1 w1 hv1 hg1 _) | (go_at_call 13; (first | (with_reducible refine (PQ80.out _).mono ?_) | (with_reducible refine (PQN.out _).mono ?_) | (with_reducible refine (PQ9.out _).mono ?_) | (with_reducible refine (PQ12.out _).mono ?_) | (with_reducible refine (PQM.out _).mono ?_) | (with_reducible refine (PQ3.out _).mono ?_)); rintro e w' ⟨rfl, rfl⟩))
    refine PWI.mk (g6 := wr.heap.size) (g := g) (cr := #[.int .i64 rk, .int .i64 ra, .int .i64 rb, .int .i64 rc]) ?_ hv1 hg1 HG.out (HP.out.trans ?_) hk rfl rfl rfl rfl rfl rfl rfl
    ·repeat (first | exact ⟨_, HX.out⟩ | (with_reducible refine PXE.alloc ?_ _) | (with_reducible refine PXE.set ?_ _ _) | (with_reducible refine PXE.drew ?_))
    ·simp [plainV, HQ.out]
end Go.Proofs.YtdjamdbamkhblacDoor
