/- The walk of the law TopMade: it answers true. Condition: the listed tables. -/
import Derived.Test.YtdjamdbamkhblaaDoorKPlain
import Derived.Test.YtdjamdbamkhblaaDoorMake
import Derived.Test.YtdjamdbamkhblaaDoorKMem
import Derived.Test.YtdjamdbamkhblaaDoorTopP
import Derived.Test.YtdjamdbamkhblaaDoorEnterW
import Derived.Test.YtdjamdbamkhblaaDoorEqualN
import Derived.Test.YtdjamdbamkhblaaDoorInvR
import Derived.BigQuiet
namespace Go.Proofs.YtdjamdbamkhblaaDoor
open Go.RowKit
set_option linter.unusedVariables false
set_option linter.unusedSimpArgs false
theorem makeOf_plain (l : List Ins) : makeOf (plainL l) = (madeOf (plainL l), 0) := by
  have h1 := plainL_ok l
  have h2 := plainL_plainB l
  have h3 := plainL_made l
  have hc : check (plainL l) = 0 := (check_zero_iff _).2 ⟨by omega, h1.2.1⟩
  unfold makeOf
  rw [if_pos hc, if_pos (by unfold plainB; simp [h2]), if_neg (by omega)]
set_option maxHeartbeats 1000000 in
theorem Picked_any (n : Int) (m : Nat) (w : World) (h1 : -9223372036854775808 ≤ n) (h2 : n ≤ 9223372036854775807) (hm : 0 < m) (hm2 : (m : Int) ≤ 9223372036854775807) :
    Calls Tryd.prog 16 #[.int .i64 n, .int .i64 (m : Int)] w fun e w' => e = .returned (.int .i64 (pick n m : Nat)) ∧ w = w' := by
  have C := Lib.hid (picked_any n m w h1 h2 hm hm2)
  go_enter Tryd.func16, Tryd.ntmps16
  go_wp2_with fail
  refine C.out.mono ?_
  rintro e w' ⟨rfl, rfl⟩
  go_wp2
  go_ret
  exact ⟨rfl, rfl⟩
theorem natsV_int (l : List Nat) : natsV l = intCells (l.map fun n : Nat => (n : Int)) := by
  simp only [natsV, intCells, List.map_map]
  rfl
theorem rdN_of_own {w : World} {base c : Nat} {A : Option Addr} {l : List Int} (h : w.ownsRow base 3 1 (.slice A l.length c) l.length (intCells l)) : RdN w w.heap.size A l := RdN.of (Rd.of_own h)
theorem rdN_nats {w : World} {base c : Nat} {A : Option Addr} {l : List Nat} (h : w.ownsRow base 3 1 (.slice A l.length c) l.length (natsV l)) : RdN w w.heap.size A (l.map fun n : Nat => (n : Int)) := by
  have e := Rd.of_own h
  rw [natsV_int] at e
  refine RdN.of ?_
  rw [List.length_map]
  exact e
theorem Equal_drewN (A A' : Option Addr) (n c c' : Nat) (l : List Int) (w : World) (hn : l.length = n) (hr : RdN w w.heap.size A l) (hr' : RdN w w.heap.size A' l) (hl : n ≤ maxLen) (k : Nat) :
    Calls Tryd.prog 19 #[.slice A n c, .slice A' n c'] (w.drewN k) fun e w' => e = .returned (.bool true) ∧ ∃ n, w' = w.drewN n := by
  subst hn
  refine (Equal_int A A' c c' l (w.drewN k) hr hr' hl).mono ?_
  rintro e w' ⟨rfl, n, rfl⟩
  exact ⟨rfl, _, World.drewN_drewN _ _ _⟩
theorem rdN_regs {W : World} {g : Nat} {t : TypeId} {cs : Array Value} (h : Blk W g t cs) (a b c d : Int) (h1 : cs[1]? = some (.int .i64 a)) (h2 : cs[2]? = some (.int .i64 b)) (h3 : cs[3]? = some (.int .i64 c)) (h4 : cs[4]? = some (.int .i64 d)) : RdN W W.heap.size (some ⟨g, 1, none⟩) [a, b, c, d] := fun _ => ⟨g, 1, rfl, h.lt, fun k hk => by
  rw [h.cell]
  have : k = 0 ∨ k = 1 ∨ k = 2 ∨ k = 3 := by simp at hk; omega
  rcases this with rfl | rfl | rfl | rfl <;> assumption⟩
theorem own_len {w : World} {base : Nat} {e : TypeId} {size n : Nat} {v : Value} {xs : List Value} (h : w.ownsRow base e size v n xs) : n ≤ maxLen := by
  rcases h.2 with ⟨_, h0⟩ | ⟨_, _, _, _, _, _, h1, h2, _⟩
  · rw [h0]; exact Nat.zero_le _
  · exact Nat.le_trans h1 h2
theorem Equal_len (A A' : Option Addr) (n c c' : Nat) (l : List Int) (w : World) (hn : l.length = n) (hr : RdN w w.heap.size A l) (hr' : RdN w w.heap.size A' l) (hl : n ≤ maxLen) :
    Calls Tryd.prog 19 #[.slice A n c, .slice A' n c'] w fun e w' => e = .returned (.bool true) ∧ ∃ n, w' = w.drewN n := by
  subst hn
  exact Equal_int A A' c c' l w hr hr' hl
--TM12--
structure TJ (w0 : World) (b1 b2 e t1 m1 k1 k2 l1 l2 : Nat) (A1 A2 B1 B2 : Option Addr) (listed : Array Bool) (W : World) (y6 y76 y77 y78 y79 y80 y81 y82 y83 y84 y85 y86 y87 y88 y89 y90 y91 y92 y93 y94 y95 y96 y97 y98 y99 y100 y101 : Value) : Prop where
  f0 : listed.getD 0 true = true → y76 = .pointer (some ⟨b1, 0, none⟩)
  f1 : listed.getD 1 true = true → y77 = .int .i64 (e : Int)
  f2 : listed.getD 2 true = true → y78 = .pointer (some ⟨b2, 0, none⟩)
  f3 : listed.getD 3 true = true → y79 = .int .i64 (e : Int)
  f4 : listed.getD 4 true = true → y80 = .bool true
  f5 : listed.getD 5 true = true → y81 = .bool true
  f6 : listed.getD 6 true = true → y82 = .pointer (some ⟨b1, 1, none⟩)
  f7 : listed.getD 7 true = true → y83 = .slice (some ⟨b1, 1, none⟩) 4 8
  f8 : listed.getD 8 true = true → y84 = .pointer (some ⟨b2, 1, none⟩)
  f9 : listed.getD 9 true = true → y85 = .slice (some ⟨b2, 1, none⟩) 4 8
  f10 : listed.getD 10 true = true → y86 = .bool true
  f11 : listed.getD 11 true = true → y87 = .bool true
  f12 : listed.getD 12 true = true → y88 = .bool true
  f13 : listed.getD 13 true = true → y89 = .pointer (some ⟨b1, 9, none⟩)
  f14 : listed.getD 14 true = true → y90 = .slice A1 t1 k1
  f15 : listed.getD 15 true = true → y91 = .pointer (some ⟨b2, 9, none⟩)
  f16 : listed.getD 16 true = true → y92 = .slice A2 t1 k2
  f17 : listed.getD 17 true = true → y93 = .bool true
  f18 : listed.getD 18 true = true → y94 = .bool true
  f19 : listed.getD 19 true = true → y95 = .bool true
  f20 : listed.getD 20 true = true → y96 = .pointer (some ⟨b1, 10, none⟩)
  f21 : listed.getD 21 true = true → y97 = .slice B1 m1 l1
  f22 : listed.getD 22 true = true → y98 = .pointer (some ⟨b2, 10, none⟩)
  f23 : listed.getD 23 true = true → y99 = .slice B2 m1 l2
  f24 : listed.getD 24 true = true → y100 = .bool true
  f25 : listed.getD 25 true = true → y101 = .bool true
  f26 : listed.getD 26 true = true → y6 = .bool true
  w : ∃ n, W = w0.drewN n
noncomputable def tm12C : Code := ((Tryd.f5.body.bind (regAt 12)).getD .skip)
set_option maxRecDepth 1000000 in
set_option maxHeartbeats 8000000 in
theorem tm12 (w0 : World) (b1 b2 e t1 m1 k1 k2 l1 l2 : Nat) (A1 A2 B1 B2 : Option Addr) {v0 v1 v2 v3 v4 v5 v6 v7 v8 v9 v10 v11 v13 v14 v15 v17 v18 v19 v20 v21 v22 v23 v24 v25 v26 v27 v28 v29 v30 v31 v32 v33 v34 v35 v36 v37 v38 v39 v40 v41 v42 v43 v44 v45 v46 v47 v48 v49 v50 v51 v52 v53 v54 v55 v56 v57 v58 v59 v60 v61 v62 v63 v64 v65 v66 v67 v68 v69 v70 v71 v72 v73 v74 v75 v76 v77 v78 v79 v80 v81 v82 v83 v84 v85 v86 v87 v88 v89 v90 v91 v92 v93 v94 v95 v96 v97 v98 v99 v100 v101 : Value} (Q : Exit → Act → World → Prop) (a0 : w0.cell? ⟨b1, 0, none⟩ = some (.int .i64 (e : Int))) (a9 : w0.cell? ⟨b1, 9, none⟩ = some (.slice A1 t1 k1)) (a10 : w0.cell? ⟨b1, 10, none⟩ = some (.slice B1 m1 l1))
    (c0 : w0.cell? ⟨b2, 0, none⟩ = some (.int .i64 (e : Int))) (c9 : w0.cell? ⟨b2, 9, none⟩ = some (.slice A2 t1 k2)) (c10 : w0.cell? ⟨b2, 10, none⟩ = some (.slice B2 m1 l2))
    (E1 : Hid (∀ k, Calls Tryd.prog 19 #[.slice (some ⟨b1, 1, none⟩) 4 8, .slice (some ⟨b2, 1, none⟩) 4 8] (w0.drewN k) fun e w' => e = .returned (.bool true) ∧ ∃ n, w' = w0.drewN n)) (E2 : Hid (∀ k, Calls Tryd.prog 19 #[.slice A1 t1 k1, .slice A2 t1 k2] (w0.drewN k) fun e w' => e = .returned (.bool true) ∧ ∃ n, w' = w0.drewN n)) (E3 : Hid (∀ k, Calls Tryd.prog 19 #[.slice B1 m1 l1, .slice B2 m1 l2] (w0.drewN k) fun e w' => e = .returned (.bool true) ∧ ∃ n, w' = w0.drewN n))
    (hQ : ∀ (listed : Array Bool) (W : World) (y6 y76 y77 y78 y79 y80 y81 y82 y83 y84 y85 y86 y87 y88 y89 y90 y91 y92 y93 y94 y95 y96 y97 y98 y99 y100 y101 : Value), (∀ i, i < 27 → listed.getD i true = true) → TJ w0 b1 b2 e t1 m1 k1 k2 l1 l2 A1 A2 B1 B2 listed W y6 y76 y77 y78 y79 y80 y81 y82 y83 y84 y85 y86 y87 y88 y89 y90 y91 y92 y93 y94 y95 y96 y97 y98 y99 y100 y101 → Q .normal ⟨#[v0, v1, v2, v3, v4, v5, y6, v7, v8, v9, v10, v11, .pointer (some ⟨b1, 0, none⟩), v13, v14, v15, .pointer (some ⟨b2, 0, none⟩), v17, v18, v19, v20, v21, v22, v23, v24, v25, v26, v27, v28, v29, v30, v31, v32, v33, v34, v35, v36, v37, v38, v39, v40, v41, v42, v43, v44, v45, v46, v47, v48, v49, v50, v51, v52, v53, v54, v55, v56, v57, v58, v59, v60, v61, v62, v63, v64, v65, v66, v67, v68, v69, v70, v71, v72, v73, v74, v75, y76, y77, y78, y79, y80, y81, y82, y83, y84, y85, y86, y87, y88, y89, y90, y91, y92, y93, y94, y95, y96, y97, y98, y99, y100, y101], []⟩ W) :
    Code.wp Tryd.prog tm12C Q ⟨#[v0, v1, v2, v3, v4, v5, v6, v7, v8, v9, v10, v11, .pointer (some ⟨b1, 0, none⟩), v13, v14, v15, .pointer (some ⟨b2, 0, none⟩), v17, v18, v19, v20, v21, v22, v23, v24, v25, v26, v27, v28, v29, v30, v31, v32, v33, v34, v35, v36, v37, v38, v39, v40, v41, v42, v43, v44, v45, v46, v47, v48, v49, v50, v51, v52, v53, v54, v55, v56, v57, v58, v59, v60, v61, v62, v63, v64, v65, v66, v67, v68, v69, v70, v71, v72, v73, v74, v75, v76, v77, v78, v79, v80, v81, v82, v83, v84, v85, v86, v87, v88, v89, v90, v91, v92, v93, v94, v95, v96, v97, v98, v99, v100, v101], []⟩ w0 := by
  have HQ := Lib.hid hQ
  clear hQ
  conv => arg 2; whnf
  refine wp_region_inv (fun listed a W => ∃ y6 y76 y77 y78 y79 y80 y81 y82 y83 y84 y85 y86 y87 y88 y89 y90 y91 y92 y93 y94 y95 y96 y97 y98 y99 y100 y101, TJ w0 b1 b2 e t1 m1 k1 k2 l1 l2 A1 A2 B1 B2 listed W y6 y76 y77 y78 y79 y80 y81 y82 y83 y84 y85 y86 y87 y88 y89 y90 y91 y92 y93 y94 y95 y96 y97 y98 y99 y100 y101 ∧ a = ⟨#[v0, v1, v2, v3, v4, v5, y6, v7, v8, v9, v10, v11, .pointer (some ⟨b1, 0, none⟩), v13, v14, v15, .pointer (some ⟨b2, 0, none⟩), v17, v18, v19, v20, v21, v22, v23, v24, v25, v26, v27, v28, v29, v30, v31, v32, v33, v34, v35, v36, v37, v38, v39, v40, v41, v42, v43, v44, v45, v46, v47, v48, v49, v50, v51, v52, v53, v54, v55, v56, v57, v58, v59, v60, v61, v62, v63, v64, v65, v66, v67, v68, v69, v70, v71, v72, v73, v74, v75, y76, y77, y78, y79, y80, y81, y82, y83, y84, y85, y86, y87, y88, y89, y90, y91, y92, y93, y94, y95, y96, y97, y98, y99, y100, y101], []⟩) (by kernel_rfl) (ord_of (by kernel_rfl)) ?start ?step ?fin
  case start => exact ⟨_, _, _, _, _, _, _, _, _, _, _, _, _, _, _, _, _, _, _, _, _, _, _, _, _, _, _, ⟨fun h => absurd h (by decide), fun h => absurd h (by decide), fun h => absurd h (by decide), fun h => absurd h (by decide), fun h => absurd h (by decide), fun h => absurd h (by decide), fun h => absurd h (by decide), fun h => absurd h (by decide), fun h => absurd h (by decide), fun h => absurd h (by decide), fun h => absurd h (by decide), fun h => absurd h (by decide), fun h => absurd h (by decide), fun h => absurd h (by decide), fun h => absurd h (by decide), fun h => absurd h (by decide), fun h => absurd h (by decide), fun h => absurd h (by decide), fun h => absurd h (by decide), fun h => absurd h (by decide), fun h => absurd h (by decide), fun h => absurd h (by decide), fun h => absurd h (by decide), fun h => absurd h (by decide), fun h => absurd h (by decide), fun h => absurd h (by decide), fun h => absurd h (by decide), ⟨1, rfl⟩⟩, rfl⟩
  case step =>
    intro i o ho listed a W hl haf hI K hK
    obtain ⟨y6, y76, y77, y78, y79, y80, y81, y82, y83, y84, y85, y86, y87, y88, y89, y90, y91, y92, y93, y94, y95, y96, y97, y98, y99, y100, y101, hJ, rfl⟩ := hI
    have hi : i < 27 := (Array.getElem?_eq_some_iff.1 ho).1
    have h16 : i = 0 ∨ i = 1 ∨ i = 2 ∨ i = 3 ∨ i = 4 ∨ i = 5 ∨ i = 6 ∨ i = 7 ∨ i = 8 ∨ i = 9 ∨ i = 10 ∨ i = 11 ∨ i = 12 ∨ i = 13 ∨ i = 14 ∨ i = 15 ∨ i = 16 ∨ i = 17 ∨ i = 18 ∨ i = 19 ∨ i = 20 ∨ i = 21 ∨ i = 22 ∨ i = 23 ∨ i = 24 ∨ i = 25 ∨ i = 26 := by omega
    rcases h16 with rfl | rfl | rfl | rfl | rfl | rfl | rfl | rfl | rfl | rfl | rfl | rfl | rfl | rfl | rfl | rfl | rfl | rfl | rfl | rfl | rfl | rfl | rfl | rfl | rfl | rfl | rfl
    · have ho' := Option.some.inj ho
      subst ho'
      have HJ := Lib.hid hJ
      clear hJ haf
      try unfold pt
      go_simp
      have hJ := HJ.out
      exact hK _ _ ⟨_, _, _, _, _, _, _, _, _, _, _, _, _, _, _, _, _, _, _, _, _, _, _, _, _, _, _, ⟨fun _ => rfl, fun x => hJ.f1 (upneR (by decide) x), fun x => hJ.f2 (upneR (by decide) x), fun x => hJ.f3 (upneR (by decide) x), fun x => hJ.f4 (upneR (by decide) x), fun x => hJ.f5 (upneR (by decide) x), fun x => hJ.f6 (upneR (by decide) x), fun x => hJ.f7 (upneR (by decide) x), fun x => hJ.f8 (upneR (by decide) x), fun x => hJ.f9 (upneR (by decide) x), fun x => hJ.f10 (upneR (by decide) x), fun x => hJ.f11 (upneR (by decide) x), fun x => hJ.f12 (upneR (by decide) x), fun x => hJ.f13 (upneR (by decide) x), fun x => hJ.f14 (upneR (by decide) x), fun x => hJ.f15 (upneR (by decide) x), fun x => hJ.f16 (upneR (by decide) x), fun x => hJ.f17 (upneR (by decide) x), fun x => hJ.f18 (upneR (by decide) x), fun x => hJ.f19 (upneR (by decide) x), fun x => hJ.f20 (upneR (by decide) x), fun x => hJ.f21 (upneR (by decide) x), fun x => hJ.f22 (upneR (by decide) x), fun x => hJ.f23 (upneR (by decide) x), fun x => hJ.f24 (upneR (by decide) x), fun x => hJ.f25 (upneR (by decide) x), fun x => hJ.f26 (upneR (by decide) x), hJ.w⟩, rfl⟩
    · have ho' := Option.some.inj ho
      subst ho'
      simp [Region.binds] at haf
      have p0 : listed.getD 0 true = true := waitsR (by simp [haf])
      obtain rfl := hJ.f0 p0
      obtain ⟨nw, rfl⟩ := hJ.w
      have HJ := Lib.hid hJ
      clear hJ haf
      try unfold pt
      go_simp
      have hJ := HJ.out
      exact hK _ _ ⟨_, _, _, _, _, _, _, _, _, _, _, _, _, _, _, _, _, _, _, _, _, _, _, _, _, _, _, ⟨fun x => hJ.f0 (upneR (by decide) x), fun _ => rfl, fun x => hJ.f2 (upneR (by decide) x), fun x => hJ.f3 (upneR (by decide) x), fun x => hJ.f4 (upneR (by decide) x), fun x => hJ.f5 (upneR (by decide) x), fun x => hJ.f6 (upneR (by decide) x), fun x => hJ.f7 (upneR (by decide) x), fun x => hJ.f8 (upneR (by decide) x), fun x => hJ.f9 (upneR (by decide) x), fun x => hJ.f10 (upneR (by decide) x), fun x => hJ.f11 (upneR (by decide) x), fun x => hJ.f12 (upneR (by decide) x), fun x => hJ.f13 (upneR (by decide) x), fun x => hJ.f14 (upneR (by decide) x), fun x => hJ.f15 (upneR (by decide) x), fun x => hJ.f16 (upneR (by decide) x), fun x => hJ.f17 (upneR (by decide) x), fun x => hJ.f18 (upneR (by decide) x), fun x => hJ.f19 (upneR (by decide) x), fun x => hJ.f20 (upneR (by decide) x), fun x => hJ.f21 (upneR (by decide) x), fun x => hJ.f22 (upneR (by decide) x), fun x => hJ.f23 (upneR (by decide) x), fun x => hJ.f24 (upneR (by decide) x), fun x => hJ.f25 (upneR (by decide) x), fun x => hJ.f26 (upneR (by decide) x), hJ.w⟩, rfl⟩
    · have ho' := Option.some.inj ho
      subst ho'
      have HJ := Lib.hid hJ
      clear hJ haf
      try unfold pt
      go_simp
      have hJ := HJ.out
      exact hK _ _ ⟨_, _, _, _, _, _, _, _, _, _, _, _, _, _, _, _, _, _, _, _, _, _, _, _, _, _, _, ⟨fun x => hJ.f0 (upneR (by decide) x), fun x => hJ.f1 (upneR (by decide) x), fun _ => rfl, fun x => hJ.f3 (upneR (by decide) x), fun x => hJ.f4 (upneR (by decide) x), fun x => hJ.f5 (upneR (by decide) x), fun x => hJ.f6 (upneR (by decide) x), fun x => hJ.f7 (upneR (by decide) x), fun x => hJ.f8 (upneR (by decide) x), fun x => hJ.f9 (upneR (by decide) x), fun x => hJ.f10 (upneR (by decide) x), fun x => hJ.f11 (upneR (by decide) x), fun x => hJ.f12 (upneR (by decide) x), fun x => hJ.f13 (upneR (by decide) x), fun x => hJ.f14 (upneR (by decide) x), fun x => hJ.f15 (upneR (by decide) x), fun x => hJ.f16 (upneR (by decide) x), fun x => hJ.f17 (upneR (by decide) x), fun x => hJ.f18 (upneR (by decide) x), fun x => hJ.f19 (upneR (by decide) x), fun x => hJ.f20 (upneR (by decide) x), fun x => hJ.f21 (upneR (by decide) x), fun x => hJ.f22 (upneR (by decide) x), fun x => hJ.f23 (upneR (by decide) x), fun x => hJ.f24 (upneR (by decide) x), fun x => hJ.f25 (upneR (by decide) x), fun x => hJ.f26 (upneR (by decide) x), hJ.w⟩, rfl⟩
    · have ho' := Option.some.inj ho
      subst ho'
      simp [Region.binds] at haf
      have p2 : listed.getD 2 true = true := waitsR (by simp [haf])
      obtain rfl := hJ.f2 p2
      obtain ⟨nw, rfl⟩ := hJ.w
      have HJ := Lib.hid hJ
      clear hJ haf
      try unfold pt
      go_simp
      have hJ := HJ.out
      exact hK _ _ ⟨_, _, _, _, _, _, _, _, _, _, _, _, _, _, _, _, _, _, _, _, _, _, _, _, _, _, _, ⟨fun x => hJ.f0 (upneR (by decide) x), fun x => hJ.f1 (upneR (by decide) x), fun x => hJ.f2 (upneR (by decide) x), fun _ => rfl, fun x => hJ.f4 (upneR (by decide) x), fun x => hJ.f5 (upneR (by decide) x), fun x => hJ.f6 (upneR (by decide) x), fun x => hJ.f7 (upneR (by decide) x), fun x => hJ.f8 (upneR (by decide) x), fun x => hJ.f9 (upneR (by decide) x), fun x => hJ.f10 (upneR (by decide) x), fun x => hJ.f11 (upneR (by decide) x), fun x => hJ.f12 (upneR (by decide) x), fun x => hJ.f13 (upneR (by decide) x), fun x => hJ.f14 (upneR (by decide) x), fun x => hJ.f15 (upneR (by decide) x), fun x => hJ.f16 (upneR (by decide) x), fun x => hJ.f17 (upneR (by decide) x), fun x => hJ.f18 (upneR (by decide) x), fun x => hJ.f19 (upneR (by decide) x), fun x => hJ.f20 (upneR (by decide) x), fun x => hJ.f21 (upneR (by decide) x), fun x => hJ.f22 (upneR (by decide) x), fun x => hJ.f23 (upneR (by decide) x), fun x => hJ.f24 (upneR (by decide) x), fun x => hJ.f25 (upneR (by decide) x), fun x => hJ.f26 (upneR (by decide) x), hJ.w⟩, rfl⟩
    · have ho' := Option.some.inj ho
      subst ho'
      simp [Region.binds] at haf
      have p1 : listed.getD 1 true = true := waitsR (by simp [haf])
      have p3 : listed.getD 3 true = true := waitsR (by simp [haf])
      obtain rfl := hJ.f1 p1
      obtain rfl := hJ.f3 p3
      have HJ := Lib.hid hJ
      clear hJ haf
      try unfold pt
      go_simp
      have hJ := HJ.out
      exact hK _ _ ⟨_, _, _, _, _, _, _, _, _, _, _, _, _, _, _, _, _, _, _, _, _, _, _, _, _, _, _, ⟨fun x => hJ.f0 (upneR (by decide) x), fun x => hJ.f1 (upneR (by decide) x), fun x => hJ.f2 (upneR (by decide) x), fun x => hJ.f3 (upneR (by decide) x), fun _ => rfl, fun x => hJ.f5 (upneR (by decide) x), fun x => hJ.f6 (upneR (by decide) x), fun x => hJ.f7 (upneR (by decide) x), fun x => hJ.f8 (upneR (by decide) x), fun x => hJ.f9 (upneR (by decide) x), fun x => hJ.f10 (upneR (by decide) x), fun x => hJ.f11 (upneR (by decide) x), fun x => hJ.f12 (upneR (by decide) x), fun x => hJ.f13 (upneR (by decide) x), fun x => hJ.f14 (upneR (by decide) x), fun x => hJ.f15 (upneR (by decide) x), fun x => hJ.f16 (upneR (by decide) x), fun x => hJ.f17 (upneR (by decide) x), fun x => hJ.f18 (upneR (by decide) x), fun x => hJ.f19 (upneR (by decide) x), fun x => hJ.f20 (upneR (by decide) x), fun x => hJ.f21 (upneR (by decide) x), fun x => hJ.f22 (upneR (by decide) x), fun x => hJ.f23 (upneR (by decide) x), fun x => hJ.f24 (upneR (by decide) x), fun x => hJ.f25 (upneR (by decide) x), fun x => hJ.f26 (upneR (by decide) x), hJ.w⟩, rfl⟩
    · have ho' := Option.some.inj ho
      subst ho'
      simp [Region.binds] at haf
      have p4 : listed.getD 4 true = true := waitsR (by simp [haf])
      obtain rfl := hJ.f4 p4
      have HJ := Lib.hid hJ
      clear hJ haf
      try unfold pt
      go_simp
      have hJ := HJ.out
      exact hK _ _ ⟨_, _, _, _, _, _, _, _, _, _, _, _, _, _, _, _, _, _, _, _, _, _, _, _, _, _, _, ⟨fun x => hJ.f0 (upneR (by decide) x), fun x => hJ.f1 (upneR (by decide) x), fun x => hJ.f2 (upneR (by decide) x), fun x => hJ.f3 (upneR (by decide) x), fun x => hJ.f4 (upneR (by decide) x), fun _ => rfl, fun x => hJ.f6 (upneR (by decide) x), fun x => hJ.f7 (upneR (by decide) x), fun x => hJ.f8 (upneR (by decide) x), fun x => hJ.f9 (upneR (by decide) x), fun x => hJ.f10 (upneR (by decide) x), fun x => hJ.f11 (upneR (by decide) x), fun x => hJ.f12 (upneR (by decide) x), fun x => hJ.f13 (upneR (by decide) x), fun x => hJ.f14 (upneR (by decide) x), fun x => hJ.f15 (upneR (by decide) x), fun x => hJ.f16 (upneR (by decide) x), fun x => hJ.f17 (upneR (by decide) x), fun x => hJ.f18 (upneR (by decide) x), fun x => hJ.f19 (upneR (by decide) x), fun x => hJ.f20 (upneR (by decide) x), fun x => hJ.f21 (upneR (by decide) x), fun x => hJ.f22 (upneR (by decide) x), fun x => hJ.f23 (upneR (by decide) x), fun x => hJ.f24 (upneR (by decide) x), fun x => hJ.f25 (upneR (by decide) x), fun x => hJ.f26 (upneR (by decide) x), hJ.w⟩, rfl⟩
    · have ho' := Option.some.inj ho
      subst ho'
      simp [Region.binds] at haf
      have p5 : listed.getD 5 true = true := waitsR (by simp [haf])
      obtain rfl := hJ.f5 p5
      have HJ := Lib.hid hJ
      clear hJ haf
      try unfold pt
      go_simp
      have hJ := HJ.out
      exact hK _ _ ⟨_, _, _, _, _, _, _, _, _, _, _, _, _, _, _, _, _, _, _, _, _, _, _, _, _, _, _, ⟨fun x => hJ.f0 (upneR (by decide) x), fun x => hJ.f1 (upneR (by decide) x), fun x => hJ.f2 (upneR (by decide) x), fun x => hJ.f3 (upneR (by decide) x), fun x => hJ.f4 (upneR (by decide) x), fun x => hJ.f5 (upneR (by decide) x), fun _ => rfl, fun x => hJ.f7 (upneR (by decide) x), fun x => hJ.f8 (upneR (by decide) x), fun x => hJ.f9 (upneR (by decide) x), fun x => hJ.f10 (upneR (by decide) x), fun x => hJ.f11 (upneR (by decide) x), fun x => hJ.f12 (upneR (by decide) x), fun x => hJ.f13 (upneR (by decide) x), fun x => hJ.f14 (upneR (by decide) x), fun x => hJ.f15 (upneR (by decide) x), fun x => hJ.f16 (upneR (by decide) x), fun x => hJ.f17 (upneR (by decide) x), fun x => hJ.f18 (upneR (by decide) x), fun x => hJ.f19 (upneR (by decide) x), fun x => hJ.f20 (upneR (by decide) x), fun x => hJ.f21 (upneR (by decide) x), fun x => hJ.f22 (upneR (by decide) x), fun x => hJ.f23 (upneR (by decide) x), fun x => hJ.f24 (upneR (by decide) x), fun x => hJ.f25 (upneR (by decide) x), fun x => hJ.f26 (upneR (by decide) x), hJ.w⟩, rfl⟩
    · have ho' := Option.some.inj ho
      subst ho'
      simp [Region.binds] at haf
      have p5 : listed.getD 5 true = true := waitsR (by simp [haf])
      have p6 : listed.getD 6 true = true := waitsR (by simp [haf])
      obtain rfl := hJ.f5 p5
      obtain rfl := hJ.f6 p6
      obtain ⟨nw, rfl⟩ := hJ.w
      have HJ := Lib.hid hJ
      clear hJ haf
      try unfold pt
      go_simp
      have hJ := HJ.out
      exact hK _ _ ⟨_, _, _, _, _, _, _, _, _, _, _, _, _, _, _, _, _, _, _, _, _, _, _, _, _, _, _, ⟨fun x => hJ.f0 (upneR (by decide) x), fun x => hJ.f1 (upneR (by decide) x), fun x => hJ.f2 (upneR (by decide) x), fun x => hJ.f3 (upneR (by decide) x), fun x => hJ.f4 (upneR (by decide) x), fun x => hJ.f5 (upneR (by decide) x), fun x => hJ.f6 (upneR (by decide) x), fun _ => rfl, fun x => hJ.f8 (upneR (by decide) x), fun x => hJ.f9 (upneR (by decide) x), fun x => hJ.f10 (upneR (by decide) x), fun x => hJ.f11 (upneR (by decide) x), fun x => hJ.f12 (upneR (by decide) x), fun x => hJ.f13 (upneR (by decide) x), fun x => hJ.f14 (upneR (by decide) x), fun x => hJ.f15 (upneR (by decide) x), fun x => hJ.f16 (upneR (by decide) x), fun x => hJ.f17 (upneR (by decide) x), fun x => hJ.f18 (upneR (by decide) x), fun x => hJ.f19 (upneR (by decide) x), fun x => hJ.f20 (upneR (by decide) x), fun x => hJ.f21 (upneR (by decide) x), fun x => hJ.f22 (upneR (by decide) x), fun x => hJ.f23 (upneR (by decide) x), fun x => hJ.f24 (upneR (by decide) x), fun x => hJ.f25 (upneR (by decide) x), fun x => hJ.f26 (upneR (by decide) x), hJ.w⟩, rfl⟩
    · have ho' := Option.some.inj ho
      subst ho'
      simp [Region.binds] at haf
      have p5 : listed.getD 5 true = true := waitsR (by simp [haf])
      obtain rfl := hJ.f5 p5
      have HJ := Lib.hid hJ
      clear hJ haf
      try unfold pt
      go_simp
      have hJ := HJ.out
      exact hK _ _ ⟨_, _, _, _, _, _, _, _, _, _, _, _, _, _, _, _, _, _, _, _, _, _, _, _, _, _, _, ⟨fun x => hJ.f0 (upneR (by decide) x), fun x => hJ.f1 (upneR (by decide) x), fun x => hJ.f2 (upneR (by decide) x), fun x => hJ.f3 (upneR (by decide) x), fun x => hJ.f4 (upneR (by decide) x), fun x => hJ.f5 (upneR (by decide) x), fun x => hJ.f6 (upneR (by decide) x), fun x => hJ.f7 (upneR (by decide) x), fun _ => rfl, fun x => hJ.f9 (upneR (by decide) x), fun x => hJ.f10 (upneR (by decide) x), fun x => hJ.f11 (upneR (by decide) x), fun x => hJ.f12 (upneR (by decide) x), fun x => hJ.f13 (upneR (by decide) x), fun x => hJ.f14 (upneR (by decide) x), fun x => hJ.f15 (upneR (by decide) x), fun x => hJ.f16 (upneR (by decide) x), fun x => hJ.f17 (upneR (by decide) x), fun x => hJ.f18 (upneR (by decide) x), fun x => hJ.f19 (upneR (by decide) x), fun x => hJ.f20 (upneR (by decide) x), fun x => hJ.f21 (upneR (by decide) x), fun x => hJ.f22 (upneR (by decide) x), fun x => hJ.f23 (upneR (by decide) x), fun x => hJ.f24 (upneR (by decide) x), fun x => hJ.f25 (upneR (by decide) x), fun x => hJ.f26 (upneR (by decide) x), hJ.w⟩, rfl⟩
    · have ho' := Option.some.inj ho
      subst ho'
      simp [Region.binds] at haf
      have p5 : listed.getD 5 true = true := waitsR (by simp [haf])
      have p8 : listed.getD 8 true = true := waitsR (by simp [haf])
      obtain rfl := hJ.f5 p5
      obtain rfl := hJ.f8 p8
      obtain ⟨nw, rfl⟩ := hJ.w
      have HJ := Lib.hid hJ
      clear hJ haf
      try unfold pt
      go_simp
      have hJ := HJ.out
      exact hK _ _ ⟨_, _, _, _, _, _, _, _, _, _, _, _, _, _, _, _, _, _, _, _, _, _, _, _, _, _, _, ⟨fun x => hJ.f0 (upneR (by decide) x), fun x => hJ.f1 (upneR (by decide) x), fun x => hJ.f2 (upneR (by decide) x), fun x => hJ.f3 (upneR (by decide) x), fun x => hJ.f4 (upneR (by decide) x), fun x => hJ.f5 (upneR (by decide) x), fun x => hJ.f6 (upneR (by decide) x), fun x => hJ.f7 (upneR (by decide) x), fun x => hJ.f8 (upneR (by decide) x), fun _ => rfl, fun x => hJ.f10 (upneR (by decide) x), fun x => hJ.f11 (upneR (by decide) x), fun x => hJ.f12 (upneR (by decide) x), fun x => hJ.f13 (upneR (by decide) x), fun x => hJ.f14 (upneR (by decide) x), fun x => hJ.f15 (upneR (by decide) x), fun x => hJ.f16 (upneR (by decide) x), fun x => hJ.f17 (upneR (by decide) x), fun x => hJ.f18 (upneR (by decide) x), fun x => hJ.f19 (upneR (by decide) x), fun x => hJ.f20 (upneR (by decide) x), fun x => hJ.f21 (upneR (by decide) x), fun x => hJ.f22 (upneR (by decide) x), fun x => hJ.f23 (upneR (by decide) x), fun x => hJ.f24 (upneR (by decide) x), fun x => hJ.f25 (upneR (by decide) x), fun x => hJ.f26 (upneR (by decide) x), hJ.w⟩, rfl⟩
    · have ho' := Option.some.inj ho
      subst ho'
      simp [Region.binds] at haf
      have p5 : listed.getD 5 true = true := waitsR (by simp [haf])
      have p7 : listed.getD 7 true = true := waitsR (by simp [haf])
      have p9 : listed.getD 9 true = true := waitsR (by simp [haf])
      obtain rfl := hJ.f5 p5
      obtain rfl := hJ.f7 p7
      obtain rfl := hJ.f9 p9
      obtain ⟨nw, rfl⟩ := hJ.w
      have HJ := Lib.hid hJ
      clear hJ haf
      try unfold pt
      go_simp
      go_at_call 19
      refine (E1.out nw).mono ?_
      rintro e' w2 ⟨rfl, n', rfl⟩
      have hJ := HJ.out
      exact hK _ _ ⟨_, _, _, _, _, _, _, _, _, _, _, _, _, _, _, _, _, _, _, _, _, _, _, _, _, _, _, ⟨fun x => hJ.f0 (upneR (by decide) x), fun x => hJ.f1 (upneR (by decide) x), fun x => hJ.f2 (upneR (by decide) x), fun x => hJ.f3 (upneR (by decide) x), fun x => hJ.f4 (upneR (by decide) x), fun x => hJ.f5 (upneR (by decide) x), fun x => hJ.f6 (upneR (by decide) x), fun x => hJ.f7 (upneR (by decide) x), fun x => hJ.f8 (upneR (by decide) x), fun x => hJ.f9 (upneR (by decide) x), fun _ => rfl, fun x => hJ.f11 (upneR (by decide) x), fun x => hJ.f12 (upneR (by decide) x), fun x => hJ.f13 (upneR (by decide) x), fun x => hJ.f14 (upneR (by decide) x), fun x => hJ.f15 (upneR (by decide) x), fun x => hJ.f16 (upneR (by decide) x), fun x => hJ.f17 (upneR (by decide) x), fun x => hJ.f18 (upneR (by decide) x), fun x => hJ.f19 (upneR (by decide) x), fun x => hJ.f20 (upneR (by decide) x), fun x => hJ.f21 (upneR (by decide) x), fun x => hJ.f22 (upneR (by decide) x), fun x => hJ.f23 (upneR (by decide) x), fun x => hJ.f24 (upneR (by decide) x), fun x => hJ.f25 (upneR (by decide) x), fun x => hJ.f26 (upneR (by decide) x), ⟨_, rfl⟩⟩, rfl⟩
    · have ho' := Option.some.inj ho
      subst ho'
      simp [Region.binds] at haf
      have p5 : listed.getD 5 true = true := waitsR (by simp [haf])
      have p10 : listed.getD 10 true = true := waitsR (by simp [haf])
      obtain rfl := hJ.f5 p5
      obtain rfl := hJ.f10 p10
      have HJ := Lib.hid hJ
      clear hJ haf
      try unfold pt
      go_simp
      have hJ := HJ.out
      exact hK _ _ ⟨_, _, _, _, _, _, _, _, _, _, _, _, _, _, _, _, _, _, _, _, _, _, _, _, _, _, _, ⟨fun x => hJ.f0 (upneR (by decide) x), fun x => hJ.f1 (upneR (by decide) x), fun x => hJ.f2 (upneR (by decide) x), fun x => hJ.f3 (upneR (by decide) x), fun x => hJ.f4 (upneR (by decide) x), fun x => hJ.f5 (upneR (by decide) x), fun x => hJ.f6 (upneR (by decide) x), fun x => hJ.f7 (upneR (by decide) x), fun x => hJ.f8 (upneR (by decide) x), fun x => hJ.f9 (upneR (by decide) x), fun x => hJ.f10 (upneR (by decide) x), fun _ => rfl, fun x => hJ.f12 (upneR (by decide) x), fun x => hJ.f13 (upneR (by decide) x), fun x => hJ.f14 (upneR (by decide) x), fun x => hJ.f15 (upneR (by decide) x), fun x => hJ.f16 (upneR (by decide) x), fun x => hJ.f17 (upneR (by decide) x), fun x => hJ.f18 (upneR (by decide) x), fun x => hJ.f19 (upneR (by decide) x), fun x => hJ.f20 (upneR (by decide) x), fun x => hJ.f21 (upneR (by decide) x), fun x => hJ.f22 (upneR (by decide) x), fun x => hJ.f23 (upneR (by decide) x), fun x => hJ.f24 (upneR (by decide) x), fun x => hJ.f25 (upneR (by decide) x), fun x => hJ.f26 (upneR (by decide) x), hJ.w⟩, rfl⟩
    · have ho' := Option.some.inj ho
      subst ho'
      simp [Region.binds] at haf
      have p11 : listed.getD 11 true = true := waitsR (by simp [haf])
      obtain rfl := hJ.f11 p11
      have HJ := Lib.hid hJ
      clear hJ haf
      try unfold pt
      go_simp
      have hJ := HJ.out
      exact hK _ _ ⟨_, _, _, _, _, _, _, _, _, _, _, _, _, _, _, _, _, _, _, _, _, _, _, _, _, _, _, ⟨fun x => hJ.f0 (upneR (by decide) x), fun x => hJ.f1 (upneR (by decide) x), fun x => hJ.f2 (upneR (by decide) x), fun x => hJ.f3 (upneR (by decide) x), fun x => hJ.f4 (upneR (by decide) x), fun x => hJ.f5 (upneR (by decide) x), fun x => hJ.f6 (upneR (by decide) x), fun x => hJ.f7 (upneR (by decide) x), fun x => hJ.f8 (upneR (by decide) x), fun x => hJ.f9 (upneR (by decide) x), fun x => hJ.f10 (upneR (by decide) x), fun x => hJ.f11 (upneR (by decide) x), fun _ => rfl, fun x => hJ.f13 (upneR (by decide) x), fun x => hJ.f14 (upneR (by decide) x), fun x => hJ.f15 (upneR (by decide) x), fun x => hJ.f16 (upneR (by decide) x), fun x => hJ.f17 (upneR (by decide) x), fun x => hJ.f18 (upneR (by decide) x), fun x => hJ.f19 (upneR (by decide) x), fun x => hJ.f20 (upneR (by decide) x), fun x => hJ.f21 (upneR (by decide) x), fun x => hJ.f22 (upneR (by decide) x), fun x => hJ.f23 (upneR (by decide) x), fun x => hJ.f24 (upneR (by decide) x), fun x => hJ.f25 (upneR (by decide) x), fun x => hJ.f26 (upneR (by decide) x), hJ.w⟩, rfl⟩
    · have ho' := Option.some.inj ho
      subst ho'
      simp [Region.binds] at haf
      have p12 : listed.getD 12 true = true := waitsR (by simp [haf])
      obtain rfl := hJ.f12 p12
      have HJ := Lib.hid hJ
      clear hJ haf
      try unfold pt
      go_simp
      have hJ := HJ.out
      exact hK _ _ ⟨_, _, _, _, _, _, _, _, _, _, _, _, _, _, _, _, _, _, _, _, _, _, _, _, _, _, _, ⟨fun x => hJ.f0 (upneR (by decide) x), fun x => hJ.f1 (upneR (by decide) x), fun x => hJ.f2 (upneR (by decide) x), fun x => hJ.f3 (upneR (by decide) x), fun x => hJ.f4 (upneR (by decide) x), fun x => hJ.f5 (upneR (by decide) x), fun x => hJ.f6 (upneR (by decide) x), fun x => hJ.f7 (upneR (by decide) x), fun x => hJ.f8 (upneR (by decide) x), fun x => hJ.f9 (upneR (by decide) x), fun x => hJ.f10 (upneR (by decide) x), fun x => hJ.f11 (upneR (by decide) x), fun x => hJ.f12 (upneR (by decide) x), fun _ => rfl, fun x => hJ.f14 (upneR (by decide) x), fun x => hJ.f15 (upneR (by decide) x), fun x => hJ.f16 (upneR (by decide) x), fun x => hJ.f17 (upneR (by decide) x), fun x => hJ.f18 (upneR (by decide) x), fun x => hJ.f19 (upneR (by decide) x), fun x => hJ.f20 (upneR (by decide) x), fun x => hJ.f21 (upneR (by decide) x), fun x => hJ.f22 (upneR (by decide) x), fun x => hJ.f23 (upneR (by decide) x), fun x => hJ.f24 (upneR (by decide) x), fun x => hJ.f25 (upneR (by decide) x), fun x => hJ.f26 (upneR (by decide) x), hJ.w⟩, rfl⟩
    · have ho' := Option.some.inj ho
      subst ho'
      simp [Region.binds] at haf
      have p12 : listed.getD 12 true = true := waitsR (by simp [haf])
      have p13 : listed.getD 13 true = true := waitsR (by simp [haf])
      obtain rfl := hJ.f12 p12
      obtain rfl := hJ.f13 p13
      obtain ⟨nw, rfl⟩ := hJ.w
      have HJ := Lib.hid hJ
      clear hJ haf
      try unfold pt
      go_simp
      have hJ := HJ.out
      exact hK _ _ ⟨_, _, _, _, _, _, _, _, _, _, _, _, _, _, _, _, _, _, _, _, _, _, _, _, _, _, _, ⟨fun x => hJ.f0 (upneR (by decide) x), fun x => hJ.f1 (upneR (by decide) x), fun x => hJ.f2 (upneR (by decide) x), fun x => hJ.f3 (upneR (by decide) x), fun x => hJ.f4 (upneR (by decide) x), fun x => hJ.f5 (upneR (by decide) x), fun x => hJ.f6 (upneR (by decide) x), fun x => hJ.f7 (upneR (by decide) x), fun x => hJ.f8 (upneR (by decide) x), fun x => hJ.f9 (upneR (by decide) x), fun x => hJ.f10 (upneR (by decide) x), fun x => hJ.f11 (upneR (by decide) x), fun x => hJ.f12 (upneR (by decide) x), fun x => hJ.f13 (upneR (by decide) x), fun _ => rfl, fun x => hJ.f15 (upneR (by decide) x), fun x => hJ.f16 (upneR (by decide) x), fun x => hJ.f17 (upneR (by decide) x), fun x => hJ.f18 (upneR (by decide) x), fun x => hJ.f19 (upneR (by decide) x), fun x => hJ.f20 (upneR (by decide) x), fun x => hJ.f21 (upneR (by decide) x), fun x => hJ.f22 (upneR (by decide) x), fun x => hJ.f23 (upneR (by decide) x), fun x => hJ.f24 (upneR (by decide) x), fun x => hJ.f25 (upneR (by decide) x), fun x => hJ.f26 (upneR (by decide) x), hJ.w⟩, rfl⟩
    · have ho' := Option.some.inj ho
      subst ho'
      simp [Region.binds] at haf
      have p12 : listed.getD 12 true = true := waitsR (by simp [haf])
      obtain rfl := hJ.f12 p12
      have HJ := Lib.hid hJ
      clear hJ haf
      try unfold pt
      go_simp
      have hJ := HJ.out
      exact hK _ _ ⟨_, _, _, _, _, _, _, _, _, _, _, _, _, _, _, _, _, _, _, _, _, _, _, _, _, _, _, ⟨fun x => hJ.f0 (upneR (by decide) x), fun x => hJ.f1 (upneR (by decide) x), fun x => hJ.f2 (upneR (by decide) x), fun x => hJ.f3 (upneR (by decide) x), fun x => hJ.f4 (upneR (by decide) x), fun x => hJ.f5 (upneR (by decide) x), fun x => hJ.f6 (upneR (by decide) x), fun x => hJ.f7 (upneR (by decide) x), fun x => hJ.f8 (upneR (by decide) x), fun x => hJ.f9 (upneR (by decide) x), fun x => hJ.f10 (upneR (by decide) x), fun x => hJ.f11 (upneR (by decide) x), fun x => hJ.f12 (upneR (by decide) x), fun x => hJ.f13 (upneR (by decide) x), fun x => hJ.f14 (upneR (by decide) x), fun _ => rfl, fun x => hJ.f16 (upneR (by decide) x), fun x => hJ.f17 (upneR (by decide) x), fun x => hJ.f18 (upneR (by decide) x), fun x => hJ.f19 (upneR (by decide) x), fun x => hJ.f20 (upneR (by decide) x), fun x => hJ.f21 (upneR (by decide) x), fun x => hJ.f22 (upneR (by decide) x), fun x => hJ.f23 (upneR (by decide) x), fun x => hJ.f24 (upneR (by decide) x), fun x => hJ.f25 (upneR (by decide) x), fun x => hJ.f26 (upneR (by decide) x), hJ.w⟩, rfl⟩
    · have ho' := Option.some.inj ho
      subst ho'
      simp [Region.binds] at haf
      have p12 : listed.getD 12 true = true := waitsR (by simp [haf])
      have p15 : listed.getD 15 true = true := waitsR (by simp [haf])
      obtain rfl := hJ.f12 p12
      obtain rfl := hJ.f15 p15
      obtain ⟨nw, rfl⟩ := hJ.w
      have HJ := Lib.hid hJ
      clear hJ haf
      try unfold pt
      go_simp
      have hJ := HJ.out
      exact hK _ _ ⟨_, _, _, _, _, _, _, _, _, _, _, _, _, _, _, _, _, _, _, _, _, _, _, _, _, _, _, ⟨fun x => hJ.f0 (upneR (by decide) x), fun x => hJ.f1 (upneR (by decide) x), fun x => hJ.f2 (upneR (by decide) x), fun x => hJ.f3 (upneR (by decide) x), fun x => hJ.f4 (upneR (by decide) x), fun x => hJ.f5 (upneR (by decide) x), fun x => hJ.f6 (upneR (by decide) x), fun x => hJ.f7 (upneR (by decide) x), fun x => hJ.f8 (upneR (by decide) x), fun x => hJ.f9 (upneR (by decide) x), fun x => hJ.f10 (upneR (by decide) x), fun x => hJ.f11 (upneR (by decide) x), fun x => hJ.f12 (upneR (by decide) x), fun x => hJ.f13 (upneR (by decide) x), fun x => hJ.f14 (upneR (by decide) x), fun x => hJ.f15 (upneR (by decide) x), fun _ => rfl, fun x => hJ.f17 (upneR (by decide) x), fun x => hJ.f18 (upneR (by decide) x), fun x => hJ.f19 (upneR (by decide) x), fun x => hJ.f20 (upneR (by decide) x), fun x => hJ.f21 (upneR (by decide) x), fun x => hJ.f22 (upneR (by decide) x), fun x => hJ.f23 (upneR (by decide) x), fun x => hJ.f24 (upneR (by decide) x), fun x => hJ.f25 (upneR (by decide) x), fun x => hJ.f26 (upneR (by decide) x), hJ.w⟩, rfl⟩
    · have ho' := Option.some.inj ho
      subst ho'
      simp [Region.binds] at haf
      have p12 : listed.getD 12 true = true := waitsR (by simp [haf])
      have p14 : listed.getD 14 true = true := waitsR (by simp [haf])
      have p16 : listed.getD 16 true = true := waitsR (by simp [haf])
      obtain rfl := hJ.f12 p12
      obtain rfl := hJ.f14 p14
      obtain rfl := hJ.f16 p16
      obtain ⟨nw, rfl⟩ := hJ.w
      have HJ := Lib.hid hJ
      clear hJ haf
      try unfold pt
      go_simp
      go_at_call 19
      refine (E2.out nw).mono ?_
      rintro e' w2 ⟨rfl, n', rfl⟩
      have hJ := HJ.out
      exact hK _ _ ⟨_, _, _, _, _, _, _, _, _, _, _, _, _, _, _, _, _, _, _, _, _, _, _, _, _, _, _, ⟨fun x => hJ.f0 (upneR (by decide) x), fun x => hJ.f1 (upneR (by decide) x), fun x => hJ.f2 (upneR (by decide) x), fun x => hJ.f3 (upneR (by decide) x), fun x => hJ.f4 (upneR (by decide) x), fun x => hJ.f5 (upneR (by decide) x), fun x => hJ.f6 (upneR (by decide) x), fun x => hJ.f7 (upneR (by decide) x), fun x => hJ.f8 (upneR (by decide) x), fun x => hJ.f9 (upneR (by decide) x), fun x => hJ.f10 (upneR (by decide) x), fun x => hJ.f11 (upneR (by decide) x), fun x => hJ.f12 (upneR (by decide) x), fun x => hJ.f13 (upneR (by decide) x), fun x => hJ.f14 (upneR (by decide) x), fun x => hJ.f15 (upneR (by decide) x), fun x => hJ.f16 (upneR (by decide) x), fun _ => rfl, fun x => hJ.f18 (upneR (by decide) x), fun x => hJ.f19 (upneR (by decide) x), fun x => hJ.f20 (upneR (by decide) x), fun x => hJ.f21 (upneR (by decide) x), fun x => hJ.f22 (upneR (by decide) x), fun x => hJ.f23 (upneR (by decide) x), fun x => hJ.f24 (upneR (by decide) x), fun x => hJ.f25 (upneR (by decide) x), fun x => hJ.f26 (upneR (by decide) x), ⟨_, rfl⟩⟩, rfl⟩
    · have ho' := Option.some.inj ho
      subst ho'
      simp [Region.binds] at haf
      have p12 : listed.getD 12 true = true := waitsR (by simp [haf])
      have p17 : listed.getD 17 true = true := waitsR (by simp [haf])
      obtain rfl := hJ.f12 p12
      obtain rfl := hJ.f17 p17
      have HJ := Lib.hid hJ
      clear hJ haf
      try unfold pt
      go_simp
      have hJ := HJ.out
      exact hK _ _ ⟨_, _, _, _, _, _, _, _, _, _, _, _, _, _, _, _, _, _, _, _, _, _, _, _, _, _, _, ⟨fun x => hJ.f0 (upneR (by decide) x), fun x => hJ.f1 (upneR (by decide) x), fun x => hJ.f2 (upneR (by decide) x), fun x => hJ.f3 (upneR (by decide) x), fun x => hJ.f4 (upneR (by decide) x), fun x => hJ.f5 (upneR (by decide) x), fun x => hJ.f6 (upneR (by decide) x), fun x => hJ.f7 (upneR (by decide) x), fun x => hJ.f8 (upneR (by decide) x), fun x => hJ.f9 (upneR (by decide) x), fun x => hJ.f10 (upneR (by decide) x), fun x => hJ.f11 (upneR (by decide) x), fun x => hJ.f12 (upneR (by decide) x), fun x => hJ.f13 (upneR (by decide) x), fun x => hJ.f14 (upneR (by decide) x), fun x => hJ.f15 (upneR (by decide) x), fun x => hJ.f16 (upneR (by decide) x), fun x => hJ.f17 (upneR (by decide) x), fun _ => rfl, fun x => hJ.f19 (upneR (by decide) x), fun x => hJ.f20 (upneR (by decide) x), fun x => hJ.f21 (upneR (by decide) x), fun x => hJ.f22 (upneR (by decide) x), fun x => hJ.f23 (upneR (by decide) x), fun x => hJ.f24 (upneR (by decide) x), fun x => hJ.f25 (upneR (by decide) x), fun x => hJ.f26 (upneR (by decide) x), hJ.w⟩, rfl⟩
    · have ho' := Option.some.inj ho
      subst ho'
      simp [Region.binds] at haf
      have p18 : listed.getD 18 true = true := waitsR (by simp [haf])
      obtain rfl := hJ.f18 p18
      have HJ := Lib.hid hJ
      clear hJ haf
      try unfold pt
      go_simp
      have hJ := HJ.out
      exact hK _ _ ⟨_, _, _, _, _, _, _, _, _, _, _, _, _, _, _, _, _, _, _, _, _, _, _, _, _, _, _, ⟨fun x => hJ.f0 (upneR (by decide) x), fun x => hJ.f1 (upneR (by decide) x), fun x => hJ.f2 (upneR (by decide) x), fun x => hJ.f3 (upneR (by decide) x), fun x => hJ.f4 (upneR (by decide) x), fun x => hJ.f5 (upneR (by decide) x), fun x => hJ.f6 (upneR (by decide) x), fun x => hJ.f7 (upneR (by decide) x), fun x => hJ.f8 (upneR (by decide) x), fun x => hJ.f9 (upneR (by decide) x), fun x => hJ.f10 (upneR (by decide) x), fun x => hJ.f11 (upneR (by decide) x), fun x => hJ.f12 (upneR (by decide) x), fun x => hJ.f13 (upneR (by decide) x), fun x => hJ.f14 (upneR (by decide) x), fun x => hJ.f15 (upneR (by decide) x), fun x => hJ.f16 (upneR (by decide) x), fun x => hJ.f17 (upneR (by decide) x), fun x => hJ.f18 (upneR (by decide) x), fun _ => rfl, fun x => hJ.f20 (upneR (by decide) x), fun x => hJ.f21 (upneR (by decide) x), fun x => hJ.f22 (upneR (by decide) x), fun x => hJ.f23 (upneR (by decide) x), fun x => hJ.f24 (upneR (by decide) x), fun x => hJ.f25 (upneR (by decide) x), fun x => hJ.f26 (upneR (by decide) x), hJ.w⟩, rfl⟩
    · have ho' := Option.some.inj ho
      subst ho'
      simp [Region.binds] at haf
      have p19 : listed.getD 19 true = true := waitsR (by simp [haf])
      obtain rfl := hJ.f19 p19
      have HJ := Lib.hid hJ
      clear hJ haf
      try unfold pt
      go_simp
      have hJ := HJ.out
      exact hK _ _ ⟨_, _, _, _, _, _, _, _, _, _, _, _, _, _, _, _, _, _, _, _, _, _, _, _, _, _, _, ⟨fun x => hJ.f0 (upneR (by decide) x), fun x => hJ.f1 (upneR (by decide) x), fun x => hJ.f2 (upneR (by decide) x), fun x => hJ.f3 (upneR (by decide) x), fun x => hJ.f4 (upneR (by decide) x), fun x => hJ.f5 (upneR (by decide) x), fun x => hJ.f6 (upneR (by decide) x), fun x => hJ.f7 (upneR (by decide) x), fun x => hJ.f8 (upneR (by decide) x), fun x => hJ.f9 (upneR (by decide) x), fun x => hJ.f10 (upneR (by decide) x), fun x => hJ.f11 (upneR (by decide) x), fun x => hJ.f12 (upneR (by decide) x), fun x => hJ.f13 (upneR (by decide) x), fun x => hJ.f14 (upneR (by decide) x), fun x => hJ.f15 (upneR (by decide) x), fun x => hJ.f16 (upneR (by decide) x), fun x => hJ.f17 (upneR (by decide) x), fun x => hJ.f18 (upneR (by decide) x), fun x => hJ.f19 (upneR (by decide) x), fun _ => rfl, fun x => hJ.f21 (upneR (by decide) x), fun x => hJ.f22 (upneR (by decide) x), fun x => hJ.f23 (upneR (by decide) x), fun x => hJ.f24 (upneR (by decide) x), fun x => hJ.f25 (upneR (by decide) x), fun x => hJ.f26 (upneR (by decide) x), hJ.w⟩, rfl⟩
    · have ho' := Option.some.inj ho
      subst ho'
      simp [Region.binds] at haf
      have p19 : listed.getD 19 true = true := waitsR (by simp [haf])
      have p20 : listed.getD 20 true = true := waitsR (by simp [haf])
      obtain rfl := hJ.f19 p19
      obtain rfl := hJ.f20 p20
      obtain ⟨nw, rfl⟩ := hJ.w
      have HJ := Lib.hid hJ
      clear hJ haf
      try unfold pt
      go_simp
      have hJ := HJ.out
      exact hK _ _ ⟨_, _, _, _, _, _, _, _, _, _, _, _, _, _, _, _, _, _, _, _, _, _, _, _, _, _, _, ⟨fun x => hJ.f0 (upneR (by decide) x), fun x => hJ.f1 (upneR (by decide) x), fun x => hJ.f2 (upneR (by decide) x), fun x => hJ.f3 (upneR (by decide) x), fun x => hJ.f4 (upneR (by decide) x), fun x => hJ.f5 (upneR (by decide) x), fun x => hJ.f6 (upneR (by decide) x), fun x => hJ.f7 (upneR (by decide) x), fun x => hJ.f8 (upneR (by decide) x), fun x => hJ.f9 (upneR (by decide) x), fun x => hJ.f10 (upneR (by decide) x), fun x => hJ.f11 (upneR (by decide) x), fun x => hJ.f12 (upneR (by decide) x), fun x => hJ.f13 (upneR (by decide) x), fun x => hJ.f14 (upneR (by decide) x), fun x => hJ.f15 (upneR (by decide) x), fun x => hJ.f16 (upneR (by decide) x), fun x => hJ.f17 (upneR (by decide) x), fun x => hJ.f18 (upneR (by decide) x), fun x => hJ.f19 (upneR (by decide) x), fun x => hJ.f20 (upneR (by decide) x), fun _ => rfl, fun x => hJ.f22 (upneR (by decide) x), fun x => hJ.f23 (upneR (by decide) x), fun x => hJ.f24 (upneR (by decide) x), fun x => hJ.f25 (upneR (by decide) x), fun x => hJ.f26 (upneR (by decide) x), hJ.w⟩, rfl⟩
    · have ho' := Option.some.inj ho
      subst ho'
      simp [Region.binds] at haf
      have p19 : listed.getD 19 true = true := waitsR (by simp [haf])
      obtain rfl := hJ.f19 p19
      have HJ := Lib.hid hJ
      clear hJ haf
      try unfold pt
      go_simp
      have hJ := HJ.out
      exact hK _ _ ⟨_, _, _, _, _, _, _, _, _, _, _, _, _, _, _, _, _, _, _, _, _, _, _, _, _, _, _, ⟨fun x => hJ.f0 (upneR (by decide) x), fun x => hJ.f1 (upneR (by decide) x), fun x => hJ.f2 (upneR (by decide) x), fun x => hJ.f3 (upneR (by decide) x), fun x => hJ.f4 (upneR (by decide) x), fun x => hJ.f5 (upneR (by decide) x), fun x => hJ.f6 (upneR (by decide) x), fun x => hJ.f7 (upneR (by decide) x), fun x => hJ.f8 (upneR (by decide) x), fun x => hJ.f9 (upneR (by decide) x), fun x => hJ.f10 (upneR (by decide) x), fun x => hJ.f11 (upneR (by decide) x), fun x => hJ.f12 (upneR (by decide) x), fun x => hJ.f13 (upneR (by decide) x), fun x => hJ.f14 (upneR (by decide) x), fun x => hJ.f15 (upneR (by decide) x), fun x => hJ.f16 (upneR (by decide) x), fun x => hJ.f17 (upneR (by decide) x), fun x => hJ.f18 (upneR (by decide) x), fun x => hJ.f19 (upneR (by decide) x), fun x => hJ.f20 (upneR (by decide) x), fun x => hJ.f21 (upneR (by decide) x), fun _ => rfl, fun x => hJ.f23 (upneR (by decide) x), fun x => hJ.f24 (upneR (by decide) x), fun x => hJ.f25 (upneR (by decide) x), fun x => hJ.f26 (upneR (by decide) x), hJ.w⟩, rfl⟩
    · have ho' := Option.some.inj ho
      subst ho'
      simp [Region.binds] at haf
      have p19 : listed.getD 19 true = true := waitsR (by simp [haf])
      have p22 : listed.getD 22 true = true := waitsR (by simp [haf])
      obtain rfl := hJ.f19 p19
      obtain rfl := hJ.f22 p22
      obtain ⟨nw, rfl⟩ := hJ.w
      have HJ := Lib.hid hJ
      clear hJ haf
      try unfold pt
      go_simp
      have hJ := HJ.out
      exact hK _ _ ⟨_, _, _, _, _, _, _, _, _, _, _, _, _, _, _, _, _, _, _, _, _, _, _, _, _, _, _, ⟨fun x => hJ.f0 (upneR (by decide) x), fun x => hJ.f1 (upneR (by decide) x), fun x => hJ.f2 (upneR (by decide) x), fun x => hJ.f3 (upneR (by decide) x), fun x => hJ.f4 (upneR (by decide) x), fun x => hJ.f5 (upneR (by decide) x), fun x => hJ.f6 (upneR (by decide) x), fun x => hJ.f7 (upneR (by decide) x), fun x => hJ.f8 (upneR (by decide) x), fun x => hJ.f9 (upneR (by decide) x), fun x => hJ.f10 (upneR (by decide) x), fun x => hJ.f11 (upneR (by decide) x), fun x => hJ.f12 (upneR (by decide) x), fun x => hJ.f13 (upneR (by decide) x), fun x => hJ.f14 (upneR (by decide) x), fun x => hJ.f15 (upneR (by decide) x), fun x => hJ.f16 (upneR (by decide) x), fun x => hJ.f17 (upneR (by decide) x), fun x => hJ.f18 (upneR (by decide) x), fun x => hJ.f19 (upneR (by decide) x), fun x => hJ.f20 (upneR (by decide) x), fun x => hJ.f21 (upneR (by decide) x), fun x => hJ.f22 (upneR (by decide) x), fun _ => rfl, fun x => hJ.f24 (upneR (by decide) x), fun x => hJ.f25 (upneR (by decide) x), fun x => hJ.f26 (upneR (by decide) x), hJ.w⟩, rfl⟩
    · have ho' := Option.some.inj ho
      subst ho'
      simp [Region.binds] at haf
      have p19 : listed.getD 19 true = true := waitsR (by simp [haf])
      have p21 : listed.getD 21 true = true := waitsR (by simp [haf])
      have p23 : listed.getD 23 true = true := waitsR (by simp [haf])
      obtain rfl := hJ.f19 p19
      obtain rfl := hJ.f21 p21
      obtain rfl := hJ.f23 p23
      obtain ⟨nw, rfl⟩ := hJ.w
      have HJ := Lib.hid hJ
      clear hJ haf
      try unfold pt
      go_simp
      go_at_call 19
      refine (E3.out nw).mono ?_
      rintro e' w2 ⟨rfl, n', rfl⟩
      have hJ := HJ.out
      exact hK _ _ ⟨_, _, _, _, _, _, _, _, _, _, _, _, _, _, _, _, _, _, _, _, _, _, _, _, _, _, _, ⟨fun x => hJ.f0 (upneR (by decide) x), fun x => hJ.f1 (upneR (by decide) x), fun x => hJ.f2 (upneR (by decide) x), fun x => hJ.f3 (upneR (by decide) x), fun x => hJ.f4 (upneR (by decide) x), fun x => hJ.f5 (upneR (by decide) x), fun x => hJ.f6 (upneR (by decide) x), fun x => hJ.f7 (upneR (by decide) x), fun x => hJ.f8 (upneR (by decide) x), fun x => hJ.f9 (upneR (by decide) x), fun x => hJ.f10 (upneR (by decide) x), fun x => hJ.f11 (upneR (by decide) x), fun x => hJ.f12 (upneR (by decide) x), fun x => hJ.f13 (upneR (by decide) x), fun x => hJ.f14 (upneR (by decide) x), fun x => hJ.f15 (upneR (by decide) x), fun x => hJ.f16 (upneR (by decide) x), fun x => hJ.f17 (upneR (by decide) x), fun x => hJ.f18 (upneR (by decide) x), fun x => hJ.f19 (upneR (by decide) x), fun x => hJ.f20 (upneR (by decide) x), fun x => hJ.f21 (upneR (by decide) x), fun x => hJ.f22 (upneR (by decide) x), fun x => hJ.f23 (upneR (by decide) x), fun _ => rfl, fun x => hJ.f25 (upneR (by decide) x), fun x => hJ.f26 (upneR (by decide) x), ⟨_, rfl⟩⟩, rfl⟩
    · have ho' := Option.some.inj ho
      subst ho'
      simp [Region.binds] at haf
      have p19 : listed.getD 19 true = true := waitsR (by simp [haf])
      have p24 : listed.getD 24 true = true := waitsR (by simp [haf])
      obtain rfl := hJ.f19 p19
      obtain rfl := hJ.f24 p24
      have HJ := Lib.hid hJ
      clear hJ haf
      try unfold pt
      go_simp
      have hJ := HJ.out
      exact hK _ _ ⟨_, _, _, _, _, _, _, _, _, _, _, _, _, _, _, _, _, _, _, _, _, _, _, _, _, _, _, ⟨fun x => hJ.f0 (upneR (by decide) x), fun x => hJ.f1 (upneR (by decide) x), fun x => hJ.f2 (upneR (by decide) x), fun x => hJ.f3 (upneR (by decide) x), fun x => hJ.f4 (upneR (by decide) x), fun x => hJ.f5 (upneR (by decide) x), fun x => hJ.f6 (upneR (by decide) x), fun x => hJ.f7 (upneR (by decide) x), fun x => hJ.f8 (upneR (by decide) x), fun x => hJ.f9 (upneR (by decide) x), fun x => hJ.f10 (upneR (by decide) x), fun x => hJ.f11 (upneR (by decide) x), fun x => hJ.f12 (upneR (by decide) x), fun x => hJ.f13 (upneR (by decide) x), fun x => hJ.f14 (upneR (by decide) x), fun x => hJ.f15 (upneR (by decide) x), fun x => hJ.f16 (upneR (by decide) x), fun x => hJ.f17 (upneR (by decide) x), fun x => hJ.f18 (upneR (by decide) x), fun x => hJ.f19 (upneR (by decide) x), fun x => hJ.f20 (upneR (by decide) x), fun x => hJ.f21 (upneR (by decide) x), fun x => hJ.f22 (upneR (by decide) x), fun x => hJ.f23 (upneR (by decide) x), fun x => hJ.f24 (upneR (by decide) x), fun _ => rfl, fun x => hJ.f26 (upneR (by decide) x), hJ.w⟩, rfl⟩
    · have ho' := Option.some.inj ho
      subst ho'
      simp [Region.binds] at haf
      have p25 : listed.getD 25 true = true := waitsR (by simp [haf])
      obtain rfl := hJ.f25 p25
      have HJ := Lib.hid hJ
      clear hJ haf
      try unfold pt
      go_simp
      have hJ := HJ.out
      exact hK _ _ ⟨_, _, _, _, _, _, _, _, _, _, _, _, _, _, _, _, _, _, _, _, _, _, _, _, _, _, _, ⟨fun x => hJ.f0 (upneR (by decide) x), fun x => hJ.f1 (upneR (by decide) x), fun x => hJ.f2 (upneR (by decide) x), fun x => hJ.f3 (upneR (by decide) x), fun x => hJ.f4 (upneR (by decide) x), fun x => hJ.f5 (upneR (by decide) x), fun x => hJ.f6 (upneR (by decide) x), fun x => hJ.f7 (upneR (by decide) x), fun x => hJ.f8 (upneR (by decide) x), fun x => hJ.f9 (upneR (by decide) x), fun x => hJ.f10 (upneR (by decide) x), fun x => hJ.f11 (upneR (by decide) x), fun x => hJ.f12 (upneR (by decide) x), fun x => hJ.f13 (upneR (by decide) x), fun x => hJ.f14 (upneR (by decide) x), fun x => hJ.f15 (upneR (by decide) x), fun x => hJ.f16 (upneR (by decide) x), fun x => hJ.f17 (upneR (by decide) x), fun x => hJ.f18 (upneR (by decide) x), fun x => hJ.f19 (upneR (by decide) x), fun x => hJ.f20 (upneR (by decide) x), fun x => hJ.f21 (upneR (by decide) x), fun x => hJ.f22 (upneR (by decide) x), fun x => hJ.f23 (upneR (by decide) x), fun x => hJ.f24 (upneR (by decide) x), fun x => hJ.f25 (upneR (by decide) x), fun _ => rfl, hJ.w⟩, rfl⟩
  case fin =>
    intro listed a W hall hI
    obtain ⟨y6, y76, y77, y78, y79, y80, y81, y82, y83, y84, y85, y86, y87, y88, y89, y90, y91, y92, y93, y94, y95, y96, y97, y98, y99, y100, y101, hJ, rfl⟩ := hI
    exact HQ.out listed W _ _ _ _ _ _ _ _ _ _ _ _ _ _ _ _ _ _ _ _ _ _ _ _ _ _ _ hall hJ
--/TM12--
set_option maxRecDepth 100000 in
set_option maxHeartbeats 40000000 in
theorem TopMade_any (A : Option Addr) (c : Nat) (l : List Ins) (word : Int) (ra : Ins) (w : World) (hr : RdI w w.heap.size A l) (hwf : ∀ i ∈ l, i.wf) (hl : l.length ≤ maxLen) (wn : (Lit.int .i64 word).wf = true) (hra : ra.wf) (ht : Tab w) :
    Calls Tryd.prog 5 #[.slice A l.length c, .int .i64 word, .agg #[.int .i64 ra.op, .int .i64 ra.a, .int .i64 ra.b, .int .i64 ra.c]] w fun e w' => e = .returned (.bool true) ∧ Below w.heap.size w w' := by
  obtain ⟨n1, n2⟩ := wf64_of wn
  obtain ⟨n, hn⟩ : ∃ n, pick word 65536 = n := ⟨_, rfl⟩
  have hn1 : n < 65536 := by rw [← hn]; exact pick_lt word (by omega)
  have C1 : Hid (∀ W : World, Calls Tryd.prog 16 #[.int .i64 word, .int .i64 65536] W fun e w' => e = .returned (.int .i64 (n : Nat)) ∧ W = w') := fun W => by
    rw [← hn]; exact Picked_any word 65536 W n1 n2 (by omega) (by omega)
  obtain ⟨p, hp⟩ : ∃ p, p = plainL l := ⟨_, rfl⟩
  obtain ⟨m, hm⟩ : ∃ m, m = madeOf (plainL l) := ⟨_, rfl⟩
  obtain ⟨x, hx⟩ : ∃ x, x = memTo ra 64 := ⟨_, rfl⟩
  have hxl : x.length = 64 := by rw [hx]; exact memTo_length ra 64
  have h1 := plainL_ok l
  have h3 := plainL_made l
  have HMK : Hid (makeOf p = (m, 0)) := by show _ = _; rw [hp, hm]; exact makeOf_plain l
  have S := made_same (n := n) (mem := x) h1.1 (by omega) h1.2.1 (by omega) (by omega) (by omega) hxl (by rw [hx]; exact memTo_odd ra 64)
  rw [← hm, ← hp] at h3
  rw [← hm, ← hp] at S
  have hE : entR 0 n = [(n : Int), 0, 0, 0, 0, 0, 63, 0] := by simp [entR]
  rw [hE] at S
  obtain ⟨S1, S2, S3, S4⟩ := S
  have hpl : p.length ≤ 31 := by rw [hp]; exact h1.2.2.2
  have KP : Hid (∀ W : World, Below w.heap.size w W → Calls Tryd.prog 13 #[.slice A l.length c] W fun e w' => ∃ V, e = .returned V ∧ w'.ownsRow W.heap.size 52 4 V p.length (insCells p) ∧ Below W.heap.size W w') := fun W hW => by
    rw [hp]; exact KPlain_any A c l W ((hr.below hW).more hW.size) hwf hl
  have KM : Hid (∀ W : World, Calls Tryd.prog 15 #[.agg #[.int .i64 ra.op, .int .i64 ra.a, .int .i64 ra.b, .int .i64 ra.c], .int .i64 64] W fun e w' => ∃ V, e = .returned V ∧ w'.ownsRow W.heap.size 3 1 V x.length (intCells x) ∧ Below W.heap.size W w') := fun W => by
    rw [hxl, hx]; exact KMem_any ra hra 64 (by omega) W
  obtain ⟨h3a, h3b, h3v⟩ := h3
  have HPL := Lib.hid (show p.length ≤ maxLen by unfold maxLen; omega)
  have HML := Lib.hid (show m.length ≤ maxLen by unfold maxLen; omega)
  have HXL := Lib.hid (show x.length ≤ maxLen by unfold maxLen; omega)
  obtain ⟨⟨s1, en1⟩, hr1⟩ : ∃ r, r = runRes p [(n : Int), 0, 0, 0, 0, 0, 0, 0] x 1000 := ⟨_, rfl⟩
  obtain ⟨⟨s2, en2⟩, hr2⟩ : ∃ r, r = runRes m [(n : Int), 0, 0, 0, 0, 0, 63, 0] x 3000 := ⟨_, rfl⟩
  rw [← hr1] at S3 S4
  rw [← hr2] at S4
  simp only at S3 S4
  have HS1 := Lib.hid S1
  have HS2 := Lib.hid S2
  have HS4 := Lib.hid S4
  have HR1 := Lib.hid hr1
  have HR2 := Lib.hid hr2
  have hb0 := (Below.refl w.heap.size w).alloc (Nat.le_refl _) (.cells #[.int .i64 ra.op, .int .i64 ra.a, .int .i64 ra.b, .int .i64 ra.c] 28)
  have hB0 := Blk.new w 28 #[.int .i64 ra.op, .int .i64 ra.a, .int .i64 ra.b, .int .i64 ra.c]
  have HENT : Hid (entV 0 n = .tuple #[.agg #[.int .i64 n, .int .i64 0, .int .i64 0, .int .i64 0, .int .i64 0, .int .i64 0, .int .i64 63, .int .i64 0], .int .i64 0]) := by
    show _ = _
    have : entBad 0 n = false := by simp [entBad]; omega
    simp [entV, this, regsV]
  have HN0 : Hid (p.length = 0 → False) := fun h => by rw [hp] at h; omega
  clear hE wn hn n1 n2 h1 h3v hp hm hx hr1 hr2 S1 S2 S4 hxl
  go_enter Tryd.func5, Tryd.ntmps5
  go_wp2_with fail
  refine (KP.out _ hb0).mono ?_
  rintro e w1 ⟨V, rfl, hV, hb1⟩
  obtain ⟨A1, c1, rfl⟩ := own_slice hV
  go_wp2_with fail
  refine (Make_any A1 c1 p w1 (RdI.of (Rd.of_own hV)) (ht.below (hb0.trans (hb1.mono hb0.size))) HPL.out).mono ?_
  rw [HMK.out]
  rintro e w2 ⟨V2, rfl, hV2, hb2⟩
  obtain ⟨A2, c2, rfl⟩ := own_slice hV2
  have hbw2 := (hb0.trans (hb1.mono hb0.size)).trans (hb2.mono (hb0.trans (hb1.mono hb0.size)).size)
  simp only at hV2
  have hB2 := (hB0.below hb1 hB0.lt).below hb2 (hB0.below hb1 hB0.lt).lt
  have d0 := hB2.cell 0
  have d1 := hB2.cell 1
  have d2 := hB2.cell 2
  have d3 := hB2.cell 3
  simp at d0 d1 d2 d3
  go_wp2_with fail
  refine (KM.out w2).mono ?_
  rintro e w3 ⟨V3, rfl, hV3, hb3⟩
  obtain ⟨A3, c3, rfl⟩ := own_slice hV3
  clear d0 d1 d2 d3
  have hbw3 := hbw2.trans (hb3.mono hbw2.size)
  have HV := Lib.hid (RdI.of (Rd.of_own hV))
  have HV2 := Lib.hid (RdI.of (Rd.of_own hV2))
  have HV3 := Lib.hid (RdN.of (Rd.of_own hV3))
  have HN3 : Hid (A3 = none → x.length = 0 ∧ c3 = 0) := fun h => by
    subst h
    rcases hV3.2 with ⟨e, h0⟩ | ⟨g, cap, cur, e, _⟩
    · injection e with _ _ e2; exact ⟨h0, e2⟩
    · cases e
  clear hV hV2 hV3
  go_wp2_with fail
  refine (C1.out w3).mono ?_
  rintro e w4 ⟨rfl, rfl⟩
  go_wp2_with fail
  have hb13 := hb2.trans (hb3.mono hb2.size)
  refine (Run_any A1 A3 c1 c3 p (n : Int) 0 0 0 0 0 0 0 x 1000 w3 ((HV.out.below hb13).more hb13.size) (ht.below hbw3) HPL.out HV3.out HXL.out HN3.out).mono ?_
  rw [HS1.out, ← HR1.out]
  rintro e w4 ⟨T1, M1, rfl, hT1, hM1, hb4⟩
  obtain ⟨AT1, kT1, rfl⟩ := own_slice hT1
  obtain ⟨AM1, kM1, rfl⟩ := own_slice hM1
  have hbw4 := hbw3.trans (hb4.mono hbw3.size)
  obtain ⟨r0, q0⟩ : ∃ r, r = s1.regs.getD 0 0 := ⟨_, rfl⟩
  obtain ⟨r1, q1⟩ : ∃ r, r = s1.regs.getD 1 0 := ⟨_, rfl⟩
  obtain ⟨r2, q2⟩ : ∃ r, r = s1.regs.getD 2 0 := ⟨_, rfl⟩
  obtain ⟨r3, q3⟩ : ∃ r, r = s1.regs.getD 3 0 := ⟨_, rfl⟩
  obtain ⟨r4, q4⟩ : ∃ r, r = s1.regs.getD 4 0 := ⟨_, rfl⟩
  obtain ⟨r5, q5⟩ : ∃ r, r = s1.regs.getD 5 0 := ⟨_, rfl⟩
  obtain ⟨r6, q6⟩ : ∃ r, r = s1.regs.getD 6 0 := ⟨_, rfl⟩
  obtain ⟨r7, q7⟩ : ∃ r, r = s1.regs.getD 7 0 := ⟨_, rfl⟩
  simp only [outV, natV, ← q0, ← q1, ← q2, ← q3, ← q4, ← q5, ← q6, ← q7]
  have HQ := Lib.hid (show r0 = s1.regs.getD 0 0 ∧ r1 = s1.regs.getD 1 0 ∧ r2 = s1.regs.getD 2 0 ∧ r3 = s1.regs.getD 3 0 from ⟨q0, q1, q2, q3⟩)
  clear q0 q1 q2 q3 q4 q5 q6 q7
  go_wp2_with fail
  refine (Enter_any 0 (n : Int) _).mono ?_
  rw [HENT.out]
  rintro e w5 ⟨rfl, hb5⟩
  have hBO5 := (Blk.new w4 37 #[.int .i64 (en1 : Int), .int .i64 (r0 : Int), .int .i64 (r1 : Int), .int .i64 (r2 : Int), .int .i64 (r3 : Int), .int .i64 (r4 : Int), .int .i64 (r5 : Int), .int .i64 (r6 : Int), .int .i64 (r7 : Int), .slice AT1 s1.told.length kT1, .slice AM1 s1.mem.length kM1]).below hb5 (by simp)
  have hbw5 := (hbw4.alloc hbw4.size (.cells #[.int .i64 (en1 : Int), .int .i64 (r0 : Int), .int .i64 (r1 : Int), .int .i64 (r2 : Int), .int .i64 (r3 : Int), .int .i64 (r4 : Int), .int .i64 (r5 : Int), .int .i64 (r6 : Int), .int .i64 (r7 : Int), .slice AT1 s1.told.length kT1, .slice AM1 s1.mem.length kM1] 37)).trans (hb5.mono (Nat.le_trans hbw4.size (by simp)))
  have hb45 := ((Below.refl w4.heap.size w4).alloc (Nat.le_refl _) _).trans (hb5.mono (by simp))
  have hs45 := hb5.size
  simp at hs45
  have hlt9 := Lib.hid (own_len hT1)
  have hlm9 := Lib.hid (own_len hM1)
  have HT1 := Lib.hid (show RdN w5 w5.heap.size AT1 (s1.told.map fun n : Nat => (n : Int)) from ((rdN_nats hT1).below hb45).more hb45.size)
  have HM1 := Lib.hid (show RdN w5 w5.heap.size AM1 (s1.mem.map fun n : Nat => (n : Int)) from ((rdN_nats hM1).below hb45).more hb45.size)
  clear hT1 hM1
  have hb35 := hb4.trans (hb45.mono hb4.size)
  have hb5Q := (Below.refl w5.heap.size w5).alloc (Nat.le_refl _) (.cells #[.int .i64 (n : Int), .int .i64 0, .int .i64 0, .int .i64 0, .int .i64 0, .int .i64 0, .int .i64 63, .int .i64 0] 35)
  have hBOQ := hBO5.alloc (.cells #[.int .i64 (n : Int), .int .i64 0, .int .i64 0, .int .i64 0, .int .i64 0, .int .i64 0, .int .i64 63, .int .i64 0] 35)
  go_wp2_with fail
  generalize w5.alloc (.cells #[.int .i64 (n : Int), .int .i64 0, .int .i64 0, .int .i64 0, .int .i64 0, .int .i64 0, .int .i64 63, .int .i64 0] 35) = wQ at *
  have hb3Q := hb35.trans (hb5Q.mono hb35.size)
  have hb2Q := hb3.trans (hb3Q.mono hb3.size)
  have hbwQ := hbw5.trans (hb5Q.mono hbw5.size)
  refine (Run_any A2 A3 c2 c3 m (n : Int) 0 0 0 0 0 63 0 x 3000 wQ ((HV2.out.below hb2Q).more hb2Q.size) (ht.below hbwQ) HML.out ((HV3.out.below hb3Q).more hb3Q.size) HXL.out HN3.out).mono ?_
  rw [HS2.out, ← HR2.out]
  rintro e w6 ⟨T2, M2, rfl, hT2, hM2, hb6⟩
  obtain ⟨AT2, kT2, rfl⟩ := own_slice hT2
  obtain ⟨AM2, kM2, rfl⟩ := own_slice hM2
  have hbw6 := hbwQ.trans (hb6.mono hbwQ.size)
  have HT2 := Lib.hid (rdN_nats hT2)
  have HM2 := Lib.hid (rdN_nats hM2)
  have hT1 := HT1.out.below (hb5Q.trans (hb6.mono hb5Q.size))
  have hM1 := HM1.out.below (hb5Q.trans (hb6.mono hb5Q.size))
  have hBO6 := hBOQ.below hb6 hBOQ.lt
  have hne : ¬ (en1 : Int) = 0 := by omega
  have hbl := hBO6.lt
  obtain ⟨t0, p0⟩ : ∃ r, r = s2.regs.getD 0 0 := ⟨_, rfl⟩
  obtain ⟨t1, p1⟩ : ∃ r, r = s2.regs.getD 1 0 := ⟨_, rfl⟩
  obtain ⟨t2, p2⟩ : ∃ r, r = s2.regs.getD 2 0 := ⟨_, rfl⟩
  obtain ⟨t3, p3⟩ : ∃ r, r = s2.regs.getD 3 0 := ⟨_, rfl⟩
  obtain ⟨t4, p4⟩ : ∃ r, r = s2.regs.getD 4 0 := ⟨_, rfl⟩
  obtain ⟨t5, p5⟩ : ∃ r, r = s2.regs.getD 5 0 := ⟨_, rfl⟩
  obtain ⟨t6, p6⟩ : ∃ r, r = s2.regs.getD 6 0 := ⟨_, rfl⟩
  obtain ⟨t7, p7⟩ : ∃ r, r = s2.regs.getD 7 0 := ⟨_, rfl⟩
  simp only [outV, natV, ← p0, ← p1, ← p2, ← p3, ← p4, ← p5, ← p6, ← p7]
  have HP := Lib.hid (show t0 = s2.regs.getD 0 0 ∧ t1 = s2.regs.getD 1 0 ∧ t2 = s2.regs.getD 2 0 ∧ t3 = s2.regs.getD 3 0 from ⟨p0, p1, p2, p3⟩)
  clear p0 p1 p2 p3 p4 p5 p6 p7
  have k0 := hBO6.cell 0
  simp at k0
  have e0 : ((en1 : Int) == 0) = false := by rw [beq_eq_false_iff_ne]; exact hne
  by_cases h3 : en1 = 3
  · subst h3
    clear hT1 hM1 hT2 hM2 e0
    go_wp2
    go_ret
    exact ⟨rfl, hbw6.alloc hbw6.size _⟩
  have e3 : ((en1 : Int) == 3) = false := by rw [beq_eq_false_iff_ne]; omega
  by_cases h2 : en1 = 2
  · subst h2
    clear hT1 hM1 hT2 hM2 e0 e3
    go_wp2
    go_ret
    exact ⟨rfl, hbw6.alloc hbw6.size _⟩
  have e2 : ((en1 : Int) == 2) = false := by rw [beq_eq_false_iff_ne]; omega
  obtain ⟨hen, hout⟩ := HS4.out h3 h2
  have ht1 := hout.told
  have hm1 := hout.mem
  have hg := hout.regs
  obtain ⟨d0, d1, d2, d3⟩ := HQ.out
  obtain ⟨f0, f1, f2, f3⟩ := HP.out
  have u0 : t0 = r0 := by rw [d0, f0, hg 0 (by omega)]
  have u1 : t1 = r1 := by rw [d1, f1, hg 1 (by omega)]
  have u2 : t2 = r2 := by rw [d2, f2, hg 2 (by omega)]
  have u3 : t3 = r3 := by rw [d3, f3, hg 3 (by omega)]
  clear HS4 HR1 HR2 S3 hT2 hM2
  rw [← ht1] at HT2 ⊢
  rw [← hm1] at HM2 ⊢
  clear d0 d1 d2 d3 f0 f1 f2 f3 ht1 hm1 hg h3 h2 hout HP HQ hne
  subst u0 u1 u2 u3
  subst hen
  have HX1 := Lib.hid (hBO6.alloc (.cells #[.int .i64 (en2 : Int), .int .i64 (t0 : Int), .int .i64 (t1 : Int), .int .i64 (t2 : Int), .int .i64 (t3 : Int), .int .i64 (t4 : Int), .int .i64 (t5 : Int), .int .i64 (t6 : Int), .int .i64 (t7 : Int), .slice AT2 s1.told.length kT2, .slice AM2 s1.mem.length kM2] 37))
  have HX2 := Lib.hid (Blk.new w6 37 #[.int .i64 (en2 : Int), .int .i64 (t0 : Int), .int .i64 (t1 : Int), .int .i64 (t2 : Int), .int .i64 (t3 : Int), .int .i64 (t4 : Int), .int .i64 (t5 : Int), .int .i64 (t6 : Int), .int .i64 (t7 : Int), .slice AT2 s1.told.length kT2, .slice AM2 s1.mem.length kM2])
  have hbW := hbw6.alloc hbw6.size (.cells #[.int .i64 (en2 : Int), .int .i64 (t0 : Int), .int .i64 (t1 : Int), .int .i64 (t2 : Int), .int .i64 (t3 : Int), .int .i64 (t4 : Int), .int .i64 (t5 : Int), .int .i64 (t6 : Int), .int .i64 (t7 : Int), .slice AT2 s1.told.length kT2, .slice AM2 s1.mem.length kM2] 37)
  have hb6W := (Below.refl w6.heap.size w6).alloc (Nat.le_refl _) (.cells #[.int .i64 (en2 : Int), .int .i64 (t0 : Int), .int .i64 (t1 : Int), .int .i64 (t2 : Int), .int .i64 (t3 : Int), .int .i64 (t4 : Int), .int .i64 (t5 : Int), .int .i64 (t6 : Int), .int .i64 (t7 : Int), .slice AT2 s1.told.length kT2, .slice AM2 s1.mem.length kM2] 37)
  have L6 := hb6.size
  have L5 := hb5Q.size
  have hT1' := Lib.hid ((((HT1.out.below (hb5Q.trans (hb6.mono hb5Q.size))).more (Nat.le_trans L5 L6)).below hb6W).more hb6W.size)
  have hM1' := Lib.hid ((((HM1.out.below (hb5Q.trans (hb6.mono hb5Q.size))).more (Nat.le_trans L5 L6)).below hb6W).more hb6W.size)
  have hT2' := Lib.hid ((HT2.out.below hb6W).more hb6W.size)
  have hM2' := Lib.hid ((HM2.out.below hb6W).more hb6W.size)
  clear hT1 hM1
  go_wp2
  generalize w6.alloc (.cells #[.int .i64 (en2 : Int), .int .i64 (t0 : Int), .int .i64 (t1 : Int), .int .i64 (t2 : Int), .int .i64 (t3 : Int), .int .i64 (t4 : Int), .int .i64 (t5 : Int), .int .i64 (t6 : Int), .int .i64 (t7 : Int), .slice AT2 s1.told.length kT2, .slice AM2 s1.mem.length kM2] 37) = W at *
  have EQ1 := Lib.hid (Equal_drewN (some ⟨w4.heap.size, 1, none⟩) (some ⟨w6.heap.size, 1, none⟩) 4 8 8 [(t0 : Int), (t1 : Int), (t2 : Int), (t3 : Int)] W rfl (rdN_regs HX1.out _ _ _ _ rfl rfl rfl rfl) (rdN_regs HX2.out _ _ _ _ rfl rfl rfl rfl) (by unfold maxLen; omega))
  have EQ2 := Lib.hid (Equal_drewN AT1 AT2 s1.told.length kT1 kT2 _ W (List.length_map _) hT1'.out hT2'.out hlt9.out)
  have EQ3 := Lib.hid (Equal_drewN AM1 AM2 s1.mem.length kM1 kM2 _ W (List.length_map _) hM1'.out hM2'.out hlm9.out)
  have a0 := HX1.out.cell 0
  have a9 := HX1.out.cell 9
  have a10 := HX1.out.cell 10
  have b0 := HX2.out.cell 0
  have b9 := HX2.out.cell 9
  have b10 := HX2.out.cell 10
  simp at a0 a9 a10 b0 b9 b10
  clear hb5 hBO5 hBOQ hBO6 hlt9 hlm9 hb6W
  refine tm12 W w4.heap.size w6.heap.size en2 s1.told.length s1.mem.length kT1 kT2 kM1 kM2 AT1 AT2 AM1 AM2 _ a0 a9 a10 b0 b9 b10 EQ1 EQ2 EQ3 ?_
  intro listed W' y6 y76 y77 y78 y79 y80 y81 y82 y83 y84 y85 y86 y87 y88 y89 y90 y91 y92 y93 y94 y95 y96 y97 y98 y99 y100 y101 hall hJ
  obtain rfl := hJ.f26 (hall 26 (by decide))
  obtain ⟨nn, rfl⟩ := hJ.w
  clear hJ
  go_wp2_with fail
  go_ret
  exact ⟨rfl, Below.drewN' hbW nn⟩
end Go.Proofs.YtdjamdbamkhblaaDoor
