/- The walk of the reference's ModuleBytes: what it returns, for every module. -/
import Derived.Test.YtdjamdbamkhblaaDoorEncode
import Derived.Lib.AppendStr
namespace Go.Proofs.YtdjamdbamkhblaaDoor
open Go.RowKit
set_option linter.unusedVariables false
set_option linter.unusedSimpArgs false
/-- Bytes as cells. -/
def bc (l : List UInt8) : List Value := l.map fun b => .int .u8 (b.toNat : Int)
theorem bc_app (a b : List UInt8) : bc (a ++ b) = bc a ++ bc b := by simp [bc]
theorem bc_one (l : List UInt8) : ∀ u ∈ bc l, u.oneCell' = true := by
  intro u hu
  simp only [bc, List.mem_map] at hu
  obtain ⟨b, _, rfl⟩ := hu
  rfl
theorem bc_str (s : ByteArray) : Go.Lib.strCells s = bc s.data.toList := rfl
theorem u8_in {n : Nat} (h : n ≤ 255) : (u8 n).toNat = n := by rw [u8_toNat]; omega
theorem bc_1 {n : Nat} (h : n ≤ 255) : [Value.int .u8 (n : Int)] = bc [u8 n] := by simp [bc, u8_in h]
theorem bc_two {q : Nat} (h : q ≤ 65535) : [Value.int .u8 ((q : Int) / 256), Value.int .u8 ((q : Int) % 256)] = bc (two q) := by
  simp only [two, bc, List.map_cons, List.map_nil]
  rw [u8_in (show q / 256 ≤ 255 by omega), u8_toNat, Int.natCast_ediv, Int.natCast_emod]
  rfl
theorem bc_ins {qo qa qb qc : Nat} (h1 : qo ≤ 255) (h2 : 16 * qa + qb ≤ 255) (h3 : qc ≤ 65535) : [Value.int .u8 (qo : Int), Value.int .u8 (16 * (qa : Int) + (qb : Int)), Value.int .u8 ((qc : Int) / 256), Value.int .u8 ((qc : Int) % 256)] = bc (insQ qo qa qb qc) := by
  rw [insQ, bc_app, ← bc_two h3]
  simp [bc, u8_in h1, u8_in h2]
theorem info_u8 : (Tryd.prog.info? 5).map (fun i => (i.zero, i.size, i.bytes)) = some (some (.int .u8 0), 1, 1) := by kernel_rfl
theorem conv_own {W : World} {base : Nat} {A : Option Addr} {n c : Nat} {R : List UInt8} (h : W.ownsRow base 5 1 (.slice A n c) n (bc R)) (h0 : 0 < n) : (convert 67 9 (.slice A n c)).run Tryd.prog W = .ok (.string (ba R)) W := by
  have hn : R.length = n := by have := h.1; simpa [bc] using this
  obtain ⟨b, o, rfl, _, hc⟩ := (Rd.of_own h).2 h0
  have e := run_convert_bytes_arg W 67 5 Tryd.underlying67 Tryd.underlying5 b o n c (R.map fun x => (x.toNat : Int)) (by simpa using hn) (fun i hi => by
    have hi' : i < R.length := by omega
    rw [hc i (.int .u8 (R[i].toNat : Int)) (by simp [bc, List.getElem?_eq_getElem hi'])]
    simp [List.getD, List.getElem?_eq_getElem hi']) 9 Tryd.underlying9
  rw [e, nums_ba]
  simp [Function.comp_def, u8_of]
structure MJ (w1 : World) (A1 : Option Addr) (c1 : Nat) (R : List UInt8) (n gM b o j dl dc q : Nat) (listed : Array Bool) (W : World) (y5 y77 y78 y79 y80 y81 y82 y83 y84 y85 y86 y87 y88 y89 y90 y91 y92 y93 : Value) : Prop where
  f0 : listed.getD 0 true = true → y77 = .slice A1 n c1
  f1 : listed.getD 1 true = true → y78 = .pointer (some ⟨gM, 2, none⟩)
  f2 : listed.getD 2 true = true → y79 = .slice (some ⟨b, o, none⟩) dl dc
  f3 : listed.getD 3 true = true → y80 = .int .i64 (j : Int)
  f4 : listed.getD 4 true = true → y81 = .pointer (some ⟨b, o + j, none⟩)
  f5 : listed.getD 5 true = true → y82 = .int .i64 (q : Int)
  f6 : listed.getD 6 true = true → y83 = .int .i64 ((q : Int) / 256)
  f7 : listed.getD 7 true = true → y84 = .int .u8 ((q : Int) / 256)
  f8 : listed.getD 8 true = true → y85 = .pointer (some ⟨gM, 2, none⟩)
  f9 : listed.getD 9 true = true → y86 = .slice (some ⟨b, o, none⟩) dl dc
  f10 : listed.getD 10 true = true → y87 = .int .i64 (j : Int)
  f11 : listed.getD 11 true = true → y88 = .pointer (some ⟨b, o + j, none⟩)
  f12 : listed.getD 12 true = true → y89 = .int .i64 (q : Int)
  f13 : listed.getD 13 true = true → y90 = .int .i64 ((q : Int) % 256)
  f14 : listed.getD 14 true = true → y91 = .int .u8 ((q : Int) % 256)
  f15 : listed.getD 15 true = true → ∃ s : Nat, y92 = .slice (some ⟨s, 0, none⟩) 2 2 ∧ (listed.getD 16 true = false → Blk W s 5 #[.int .u8 ((q : Int) / 256), .int .u8 ((q : Int) % 256)])
  f16 : listed.getD 16 true = true → ∃ s : Value, y93 = s ∧ W.ownsRow w1.heap.size 5 1 s (n + 2) (bc R ++ [.int .u8 ((q : Int) / 256), .int .u8 ((q : Int) % 256)])
  f17 : listed.getD 17 true = true → ∃ s : Value, y5 = s ∧ W.ownsRow w1.heap.size 5 1 s (n + 2) (bc R ++ [.int .u8 ((q : Int) / 256), .int .u8 ((q : Int) % 256)])
  b : listed.getD 17 true = false → y5 = .slice A1 n c1
  o17 : listed.getD 17 true = true → listed.getD 16 true = true
  o16 : listed.getD 16 true = true → listed.getD 0 true = true
  w : Below w1.heap.size w1 W ∧ (listed.getD 16 true = false → W.ownsRow w1.heap.size 5 1 (.slice A1 n c1) n (bc R))
noncomputable def mreg16C : Code := ((Tryd.f25.body.bind (regAt 16)).getD .skip)
set_option maxRecDepth 1000000 in
set_option maxHeartbeats 8000000 in
theorem mreg16 (w1 : World) (A1 : Option Addr) (c1 : Nat) (R : List UInt8) (n gM b o j dl dc q : Nat) {v0 v2 v3 v4 v6 v7 v9 v10 v11 v12 v13 v14 v15 v16 v17 v18 v19 v20 v21 v22 v23 v24 v25 v26 v27 v28 v29 v30 v31 v32 v33 v34 v35 v36 v37 v38 v39 v40 v41 v42 v43 v44 v45 v46 v47 v48 v49 v50 v51 v52 v53 v54 v55 v56 v57 v58 v59 v60 v61 v62 v63 v64 v65 v66 v67 v68 v69 v70 v71 v72 v73 v74 v75 v76 v77 v78 v79 v80 v81 v82 v83 v84 v85 v86 v87 v88 v89 v90 v91 v92 v93 v94 v95 v96 v97 v98 v99 : Value} (wr : World) (Q : Exit → Act → World → Prop) (hbr : Below w1.heap.size w1 wr) (hown : wr.ownsRow w1.heap.size 5 1 (.slice A1 n c1) n (bc R)) (hn : n ≤ 2000) (hq : q ≤ 65535) (hj : j < dl) (hdl : dl ≤ 64)
    (hm : ∀ W, Below w1.heap.size w1 W → W.cell? ⟨b, o + j, none⟩ = some (.int .i64 (q : Int))) (hm2 : ∀ W, Below w1.heap.size w1 W → W.cell? ⟨gM, 2, none⟩ = some (.slice (some ⟨b, o, none⟩) dl dc))
    (hQ : ∀ (listed : Array Bool) (W : World) (y5 y77 y78 y79 y80 y81 y82 y83 y84 y85 y86 y87 y88 y89 y90 y91 y92 y93 : Value), (∀ i, i < 18 → listed.getD i true = true) → MJ w1 A1 c1 R n gM b o j dl dc q listed W y5 y77 y78 y79 y80 y81 y82 y83 y84 y85 y86 y87 y88 y89 y90 y91 y92 y93 → Q .normal ⟨#[v0, .pointer (some ⟨gM, 0, none⟩), v2, v3, v4, y5, v6, v7, .int .i64 (j : Int), v9, v10, v11, v12, v13, v14, v15, v16, v17, v18, v19, v20, v21, v22, v23, v24, v25, v26, v27, v28, v29, v30, v31, v32, v33, v34, v35, v36, v37, v38, v39, v40, v41, v42, v43, v44, v45, v46, v47, v48, v49, v50, v51, v52, v53, v54, v55, v56, v57, v58, v59, v60, v61, v62, v63, v64, v65, v66, v67, v68, v69, v70, v71, v72, v73, v74, v75, v76, y77, y78, y79, y80, y81, y82, y83, y84, y85, y86, y87, y88, y89, y90, y91, y92, y93, v94, v95, v96, v97, v98, v99], []⟩ W) :
    Code.wp Tryd.prog mreg16C Q ⟨#[v0, .pointer (some ⟨gM, 0, none⟩), v2, v3, v4, .slice A1 n c1, v6, v7, .int .i64 (j : Int), v9, v10, v11, v12, v13, v14, v15, v16, v17, v18, v19, v20, v21, v22, v23, v24, v25, v26, v27, v28, v29, v30, v31, v32, v33, v34, v35, v36, v37, v38, v39, v40, v41, v42, v43, v44, v45, v46, v47, v48, v49, v50, v51, v52, v53, v54, v55, v56, v57, v58, v59, v60, v61, v62, v63, v64, v65, v66, v67, v68, v69, v70, v71, v72, v73, v74, v75, v76, v77, v78, v79, v80, v81, v82, v83, v84, v85, v86, v87, v88, v89, v90, v91, v92, v93, v94, v95, v96, v97, v98, v99], []⟩ wr := by
  have HQ := Lib.hid hQ
  clear hQ
  conv => arg 2; whnf
  refine wp_region_inv (fun listed a W => ∃ y5 y77 y78 y79 y80 y81 y82 y83 y84 y85 y86 y87 y88 y89 y90 y91 y92 y93, MJ w1 A1 c1 R n gM b o j dl dc q listed W y5 y77 y78 y79 y80 y81 y82 y83 y84 y85 y86 y87 y88 y89 y90 y91 y92 y93 ∧ a = ⟨#[v0, .pointer (some ⟨gM, 0, none⟩), v2, v3, v4, y5, v6, v7, .int .i64 (j : Int), v9, v10, v11, v12, v13, v14, v15, v16, v17, v18, v19, v20, v21, v22, v23, v24, v25, v26, v27, v28, v29, v30, v31, v32, v33, v34, v35, v36, v37, v38, v39, v40, v41, v42, v43, v44, v45, v46, v47, v48, v49, v50, v51, v52, v53, v54, v55, v56, v57, v58, v59, v60, v61, v62, v63, v64, v65, v66, v67, v68, v69, v70, v71, v72, v73, v74, v75, v76, y77, y78, y79, y80, y81, y82, y83, y84, y85, y86, y87, y88, y89, y90, y91, y92, y93, v94, v95, v96, v97, v98, v99], []⟩) (by kernel_rfl) (ord_of (by kernel_rfl)) ?start ?step ?fin
  case start => exact ⟨_, _, _, _, _, _, _, _, _, _, _, _, _, _, _, _, _, _, ⟨fun h => absurd h (by decide), fun h => absurd h (by decide), fun h => absurd h (by decide), fun h => absurd h (by decide), fun h => absurd h (by decide), fun h => absurd h (by decide), fun h => absurd h (by decide), fun h => absurd h (by decide), fun h => absurd h (by decide), fun h => absurd h (by decide), fun h => absurd h (by decide), fun h => absurd h (by decide), fun h => absurd h (by decide), fun h => absurd h (by decide), fun h => absurd h (by decide), fun h => absurd h (by decide), fun h => absurd h (by decide), fun h => absurd h (by decide), fun _ => rfl, fun h => absurd h (by decide), fun h => absurd h (by decide), ⟨Below.drewN' hbr 1, fun _ => hown.drew⟩⟩, rfl⟩
  case step =>
    intro i o ho listed a W hl haf hI K hK
    obtain ⟨y5, y77, y78, y79, y80, y81, y82, y83, y84, y85, y86, y87, y88, y89, y90, y91, y92, y93, hJ, rfl⟩ := hI
    have hi : i < 18 := (Array.getElem?_eq_some_iff.1 ho).1
    have h16 : i = 0 ∨ i = 1 ∨ i = 2 ∨ i = 3 ∨ i = 4 ∨ i = 5 ∨ i = 6 ∨ i = 7 ∨ i = 8 ∨ i = 9 ∨ i = 10 ∨ i = 11 ∨ i = 12 ∨ i = 13 ∨ i = 14 ∨ i = 15 ∨ i = 16 ∨ i = 17 := by omega
    have hw6 : IntKind.i64.wrap ((q : Int) / 256) = (q : Int) / 256 := Go.IntWalk.i64_in _ (by omega)
    have hqi : (q : Int) ≤ 65535 := by omega
    have hwc : IntKind.u8.wrap ((q : Int) / 256) = (q : Int) / 256 := wrap_u8 (by omega) (by omega)
    have hwd : IntKind.u8.wrap ((q : Int) % 256) = (q : Int) % 256 := wrap_u8 (by omega) (by omega)
    have hU := Tryd.underlying67
    obtain ⟨i0, hi0, hz0, hz1, hz2⟩ := info_parts info_u8
    rcases h16 with rfl | rfl | rfl | rfl | rfl | rfl | rfl | rfl | rfl | rfl | rfl | rfl | rfl | rfl | rfl | rfl | rfl | rfl
    · have ho' := Option.some.inj ho
      subst ho'
      obtain rfl := hJ.b (by
        rw [← Bool.not_eq_true]; intro e
        have e := hJ.o17 e
        have e := hJ.o16 e
        rw [hl] at e; cases e)
      have HJ := Lib.hid hJ
      clear hJ haf
      try unfold pt
      go_simp
      have hJ := HJ.out
      exact hK _ _ ⟨_, _, _, _, _, _, _, _, _, _, _, _, _, _, _, _, _, _, ⟨fun _ => rfl, fun x => hJ.f1 (upneR (by decide) x), fun x => hJ.f2 (upneR (by decide) x), fun x => hJ.f3 (upneR (by decide) x), fun x => hJ.f4 (upneR (by decide) x), fun x => hJ.f5 (upneR (by decide) x), fun x => hJ.f6 (upneR (by decide) x), fun x => hJ.f7 (upneR (by decide) x), fun x => hJ.f8 (upneR (by decide) x), fun x => hJ.f9 (upneR (by decide) x), fun x => hJ.f10 (upneR (by decide) x), fun x => hJ.f11 (upneR (by decide) x), fun x => hJ.f12 (upneR (by decide) x), fun x => hJ.f13 (upneR (by decide) x), fun x => hJ.f14 (upneR (by decide) x), fun x => by obtain ⟨s, e1, e2⟩ := hJ.f15 (upneR (by decide) x); exact ⟨s, e1, fun y => e2 (by rw [upeqR (by decide)] at y; exact y)⟩, fun x => hJ.f16 (upneR (by decide) x), fun x => hJ.f17 (upneR (by decide) x), fun x => hJ.b (by rw [upeqR (by decide)] at x; exact x), fun x => by rw [upeqR (by decide)]; exact hJ.o17 (upneR (by decide) x), fun _ => upselfR, ⟨hJ.w.1, fun y => hJ.w.2 (by rw [upeqR (by decide)] at y; exact y)⟩⟩, rfl⟩
    · have ho' := Option.some.inj ho
      subst ho'
      have HJ := Lib.hid hJ
      clear hJ haf
      try unfold pt
      go_simp
      have hJ := HJ.out
      exact hK _ _ ⟨_, _, _, _, _, _, _, _, _, _, _, _, _, _, _, _, _, _, ⟨fun x => hJ.f0 (upneR (by decide) x), fun _ => rfl, fun x => hJ.f2 (upneR (by decide) x), fun x => hJ.f3 (upneR (by decide) x), fun x => hJ.f4 (upneR (by decide) x), fun x => hJ.f5 (upneR (by decide) x), fun x => hJ.f6 (upneR (by decide) x), fun x => hJ.f7 (upneR (by decide) x), fun x => hJ.f8 (upneR (by decide) x), fun x => hJ.f9 (upneR (by decide) x), fun x => hJ.f10 (upneR (by decide) x), fun x => hJ.f11 (upneR (by decide) x), fun x => hJ.f12 (upneR (by decide) x), fun x => hJ.f13 (upneR (by decide) x), fun x => hJ.f14 (upneR (by decide) x), fun x => by obtain ⟨s, e1, e2⟩ := hJ.f15 (upneR (by decide) x); exact ⟨s, e1, fun y => e2 (by rw [upeqR (by decide)] at y; exact y)⟩, fun x => hJ.f16 (upneR (by decide) x), fun x => hJ.f17 (upneR (by decide) x), fun x => hJ.b (by rw [upeqR (by decide)] at x; exact x), fun x => by rw [upeqR (by decide)]; exact hJ.o17 (upneR (by decide) x), fun x => by rw [upeqR (by decide)]; exact hJ.o16 (upneR (by decide) x), ⟨hJ.w.1, fun y => hJ.w.2 (by rw [upeqR (by decide)] at y; exact y)⟩⟩, rfl⟩
    · have ho' := Option.some.inj ho
      subst ho'
      simp [Region.binds] at haf
      have p1 : listed.getD 1 true = true := waitsR (by simp [haf])
      obtain rfl := hJ.f1 p1
      have z2 := hm2 W hJ.w.1
      have HJ := Lib.hid hJ
      clear hJ haf
      try unfold pt
      go_simp
      have hJ := HJ.out
      exact hK _ _ ⟨_, _, _, _, _, _, _, _, _, _, _, _, _, _, _, _, _, _, ⟨fun x => hJ.f0 (upneR (by decide) x), fun x => hJ.f1 (upneR (by decide) x), fun _ => rfl, fun x => hJ.f3 (upneR (by decide) x), fun x => hJ.f4 (upneR (by decide) x), fun x => hJ.f5 (upneR (by decide) x), fun x => hJ.f6 (upneR (by decide) x), fun x => hJ.f7 (upneR (by decide) x), fun x => hJ.f8 (upneR (by decide) x), fun x => hJ.f9 (upneR (by decide) x), fun x => hJ.f10 (upneR (by decide) x), fun x => hJ.f11 (upneR (by decide) x), fun x => hJ.f12 (upneR (by decide) x), fun x => hJ.f13 (upneR (by decide) x), fun x => hJ.f14 (upneR (by decide) x), fun x => by obtain ⟨s, e1, e2⟩ := hJ.f15 (upneR (by decide) x); exact ⟨s, e1, fun y => e2 (by rw [upeqR (by decide)] at y; exact y)⟩, fun x => hJ.f16 (upneR (by decide) x), fun x => hJ.f17 (upneR (by decide) x), fun x => hJ.b (by rw [upeqR (by decide)] at x; exact x), fun x => by rw [upeqR (by decide)]; exact hJ.o17 (upneR (by decide) x), fun x => by rw [upeqR (by decide)]; exact hJ.o16 (upneR (by decide) x), ⟨hJ.w.1, fun y => hJ.w.2 (by rw [upeqR (by decide)] at y; exact y)⟩⟩, rfl⟩
    · have ho' := Option.some.inj ho
      subst ho'
      have HJ := Lib.hid hJ
      clear hJ haf
      try unfold pt
      go_simp
      have hJ := HJ.out
      exact hK _ _ ⟨_, _, _, _, _, _, _, _, _, _, _, _, _, _, _, _, _, _, ⟨fun x => hJ.f0 (upneR (by decide) x), fun x => hJ.f1 (upneR (by decide) x), fun x => hJ.f2 (upneR (by decide) x), fun _ => rfl, fun x => hJ.f4 (upneR (by decide) x), fun x => hJ.f5 (upneR (by decide) x), fun x => hJ.f6 (upneR (by decide) x), fun x => hJ.f7 (upneR (by decide) x), fun x => hJ.f8 (upneR (by decide) x), fun x => hJ.f9 (upneR (by decide) x), fun x => hJ.f10 (upneR (by decide) x), fun x => hJ.f11 (upneR (by decide) x), fun x => hJ.f12 (upneR (by decide) x), fun x => hJ.f13 (upneR (by decide) x), fun x => hJ.f14 (upneR (by decide) x), fun x => by obtain ⟨s, e1, e2⟩ := hJ.f15 (upneR (by decide) x); exact ⟨s, e1, fun y => e2 (by rw [upeqR (by decide)] at y; exact y)⟩, fun x => hJ.f16 (upneR (by decide) x), fun x => hJ.f17 (upneR (by decide) x), fun x => hJ.b (by rw [upeqR (by decide)] at x; exact x), fun x => by rw [upeqR (by decide)]; exact hJ.o17 (upneR (by decide) x), fun x => by rw [upeqR (by decide)]; exact hJ.o16 (upneR (by decide) x), ⟨hJ.w.1, fun y => hJ.w.2 (by rw [upeqR (by decide)] at y; exact y)⟩⟩, rfl⟩
    · have ho' := Option.some.inj ho
      subst ho'
      simp [Region.binds] at haf
      have p2 : listed.getD 2 true = true := waitsR (by simp [haf])
      have p3 : listed.getD 3 true = true := waitsR (by simp [haf])
      obtain rfl := hJ.f2 p2
      obtain rfl := hJ.f3 p3
      have HJ := Lib.hid hJ
      clear hJ haf
      try unfold pt
      go_simp
      have hJ := HJ.out
      exact hK _ _ ⟨_, _, _, _, _, _, _, _, _, _, _, _, _, _, _, _, _, _, ⟨fun x => hJ.f0 (upneR (by decide) x), fun x => hJ.f1 (upneR (by decide) x), fun x => hJ.f2 (upneR (by decide) x), fun x => hJ.f3 (upneR (by decide) x), fun _ => rfl, fun x => hJ.f5 (upneR (by decide) x), fun x => hJ.f6 (upneR (by decide) x), fun x => hJ.f7 (upneR (by decide) x), fun x => hJ.f8 (upneR (by decide) x), fun x => hJ.f9 (upneR (by decide) x), fun x => hJ.f10 (upneR (by decide) x), fun x => hJ.f11 (upneR (by decide) x), fun x => hJ.f12 (upneR (by decide) x), fun x => hJ.f13 (upneR (by decide) x), fun x => hJ.f14 (upneR (by decide) x), fun x => by obtain ⟨s, e1, e2⟩ := hJ.f15 (upneR (by decide) x); exact ⟨s, e1, fun y => e2 (by rw [upeqR (by decide)] at y; exact y)⟩, fun x => hJ.f16 (upneR (by decide) x), fun x => hJ.f17 (upneR (by decide) x), fun x => hJ.b (by rw [upeqR (by decide)] at x; exact x), fun x => by rw [upeqR (by decide)]; exact hJ.o17 (upneR (by decide) x), fun x => by rw [upeqR (by decide)]; exact hJ.o16 (upneR (by decide) x), ⟨hJ.w.1, fun y => hJ.w.2 (by rw [upeqR (by decide)] at y; exact y)⟩⟩, rfl⟩
    · have ho' := Option.some.inj ho
      subst ho'
      simp [Region.binds] at haf
      have p4 : listed.getD 4 true = true := waitsR (by simp [haf])
      obtain rfl := hJ.f4 p4
      have z2 := hm W hJ.w.1
      have HJ := Lib.hid hJ
      clear hJ haf
      try unfold pt
      go_simp
      have hJ := HJ.out
      exact hK _ _ ⟨_, _, _, _, _, _, _, _, _, _, _, _, _, _, _, _, _, _, ⟨fun x => hJ.f0 (upneR (by decide) x), fun x => hJ.f1 (upneR (by decide) x), fun x => hJ.f2 (upneR (by decide) x), fun x => hJ.f3 (upneR (by decide) x), fun x => hJ.f4 (upneR (by decide) x), fun _ => rfl, fun x => hJ.f6 (upneR (by decide) x), fun x => hJ.f7 (upneR (by decide) x), fun x => hJ.f8 (upneR (by decide) x), fun x => hJ.f9 (upneR (by decide) x), fun x => hJ.f10 (upneR (by decide) x), fun x => hJ.f11 (upneR (by decide) x), fun x => hJ.f12 (upneR (by decide) x), fun x => hJ.f13 (upneR (by decide) x), fun x => hJ.f14 (upneR (by decide) x), fun x => by obtain ⟨s, e1, e2⟩ := hJ.f15 (upneR (by decide) x); exact ⟨s, e1, fun y => e2 (by rw [upeqR (by decide)] at y; exact y)⟩, fun x => hJ.f16 (upneR (by decide) x), fun x => hJ.f17 (upneR (by decide) x), fun x => hJ.b (by rw [upeqR (by decide)] at x; exact x), fun x => by rw [upeqR (by decide)]; exact hJ.o17 (upneR (by decide) x), fun x => by rw [upeqR (by decide)]; exact hJ.o16 (upneR (by decide) x), ⟨hJ.w.1, fun y => hJ.w.2 (by rw [upeqR (by decide)] at y; exact y)⟩⟩, rfl⟩
    · have ho' := Option.some.inj ho
      subst ho'
      simp [Region.binds] at haf
      have p5 : listed.getD 5 true = true := waitsR (by simp [haf])
      obtain rfl := hJ.f5 p5
      have HJ := Lib.hid hJ
      clear hJ haf
      try unfold pt
      go_simp
      have hJ := HJ.out
      exact hK _ _ ⟨_, _, _, _, _, _, _, _, _, _, _, _, _, _, _, _, _, _, ⟨fun x => hJ.f0 (upneR (by decide) x), fun x => hJ.f1 (upneR (by decide) x), fun x => hJ.f2 (upneR (by decide) x), fun x => hJ.f3 (upneR (by decide) x), fun x => hJ.f4 (upneR (by decide) x), fun x => hJ.f5 (upneR (by decide) x), fun _ => rfl, fun x => hJ.f7 (upneR (by decide) x), fun x => hJ.f8 (upneR (by decide) x), fun x => hJ.f9 (upneR (by decide) x), fun x => hJ.f10 (upneR (by decide) x), fun x => hJ.f11 (upneR (by decide) x), fun x => hJ.f12 (upneR (by decide) x), fun x => hJ.f13 (upneR (by decide) x), fun x => hJ.f14 (upneR (by decide) x), fun x => by obtain ⟨s, e1, e2⟩ := hJ.f15 (upneR (by decide) x); exact ⟨s, e1, fun y => e2 (by rw [upeqR (by decide)] at y; exact y)⟩, fun x => hJ.f16 (upneR (by decide) x), fun x => hJ.f17 (upneR (by decide) x), fun x => hJ.b (by rw [upeqR (by decide)] at x; exact x), fun x => by rw [upeqR (by decide)]; exact hJ.o17 (upneR (by decide) x), fun x => by rw [upeqR (by decide)]; exact hJ.o16 (upneR (by decide) x), ⟨hJ.w.1, fun y => hJ.w.2 (by rw [upeqR (by decide)] at y; exact y)⟩⟩, rfl⟩
    · have ho' := Option.some.inj ho
      subst ho'
      simp [Region.binds] at haf
      have p6 : listed.getD 6 true = true := waitsR (by simp [haf])
      obtain rfl := hJ.f6 p6
      have HJ := Lib.hid hJ
      clear hJ haf
      try unfold pt
      go_simp
      have hJ := HJ.out
      exact hK _ _ ⟨_, _, _, _, _, _, _, _, _, _, _, _, _, _, _, _, _, _, ⟨fun x => hJ.f0 (upneR (by decide) x), fun x => hJ.f1 (upneR (by decide) x), fun x => hJ.f2 (upneR (by decide) x), fun x => hJ.f3 (upneR (by decide) x), fun x => hJ.f4 (upneR (by decide) x), fun x => hJ.f5 (upneR (by decide) x), fun x => hJ.f6 (upneR (by decide) x), fun _ => rfl, fun x => hJ.f8 (upneR (by decide) x), fun x => hJ.f9 (upneR (by decide) x), fun x => hJ.f10 (upneR (by decide) x), fun x => hJ.f11 (upneR (by decide) x), fun x => hJ.f12 (upneR (by decide) x), fun x => hJ.f13 (upneR (by decide) x), fun x => hJ.f14 (upneR (by decide) x), fun x => by obtain ⟨s, e1, e2⟩ := hJ.f15 (upneR (by decide) x); exact ⟨s, e1, fun y => e2 (by rw [upeqR (by decide)] at y; exact y)⟩, fun x => hJ.f16 (upneR (by decide) x), fun x => hJ.f17 (upneR (by decide) x), fun x => hJ.b (by rw [upeqR (by decide)] at x; exact x), fun x => by rw [upeqR (by decide)]; exact hJ.o17 (upneR (by decide) x), fun x => by rw [upeqR (by decide)]; exact hJ.o16 (upneR (by decide) x), ⟨hJ.w.1, fun y => hJ.w.2 (by rw [upeqR (by decide)] at y; exact y)⟩⟩, rfl⟩
    · have ho' := Option.some.inj ho
      subst ho'
      have HJ := Lib.hid hJ
      clear hJ haf
      try unfold pt
      go_simp
      have hJ := HJ.out
      exact hK _ _ ⟨_, _, _, _, _, _, _, _, _, _, _, _, _, _, _, _, _, _, ⟨fun x => hJ.f0 (upneR (by decide) x), fun x => hJ.f1 (upneR (by decide) x), fun x => hJ.f2 (upneR (by decide) x), fun x => hJ.f3 (upneR (by decide) x), fun x => hJ.f4 (upneR (by decide) x), fun x => hJ.f5 (upneR (by decide) x), fun x => hJ.f6 (upneR (by decide) x), fun x => hJ.f7 (upneR (by decide) x), fun _ => rfl, fun x => hJ.f9 (upneR (by decide) x), fun x => hJ.f10 (upneR (by decide) x), fun x => hJ.f11 (upneR (by decide) x), fun x => hJ.f12 (upneR (by decide) x), fun x => hJ.f13 (upneR (by decide) x), fun x => hJ.f14 (upneR (by decide) x), fun x => by obtain ⟨s, e1, e2⟩ := hJ.f15 (upneR (by decide) x); exact ⟨s, e1, fun y => e2 (by rw [upeqR (by decide)] at y; exact y)⟩, fun x => hJ.f16 (upneR (by decide) x), fun x => hJ.f17 (upneR (by decide) x), fun x => hJ.b (by rw [upeqR (by decide)] at x; exact x), fun x => by rw [upeqR (by decide)]; exact hJ.o17 (upneR (by decide) x), fun x => by rw [upeqR (by decide)]; exact hJ.o16 (upneR (by decide) x), ⟨hJ.w.1, fun y => hJ.w.2 (by rw [upeqR (by decide)] at y; exact y)⟩⟩, rfl⟩
    · have ho' := Option.some.inj ho
      subst ho'
      simp [Region.binds] at haf
      have p8 : listed.getD 8 true = true := waitsR (by simp [haf])
      obtain rfl := hJ.f8 p8
      have z2 := hm2 W hJ.w.1
      have HJ := Lib.hid hJ
      clear hJ haf
      try unfold pt
      go_simp
      have hJ := HJ.out
      exact hK _ _ ⟨_, _, _, _, _, _, _, _, _, _, _, _, _, _, _, _, _, _, ⟨fun x => hJ.f0 (upneR (by decide) x), fun x => hJ.f1 (upneR (by decide) x), fun x => hJ.f2 (upneR (by decide) x), fun x => hJ.f3 (upneR (by decide) x), fun x => hJ.f4 (upneR (by decide) x), fun x => hJ.f5 (upneR (by decide) x), fun x => hJ.f6 (upneR (by decide) x), fun x => hJ.f7 (upneR (by decide) x), fun x => hJ.f8 (upneR (by decide) x), fun _ => rfl, fun x => hJ.f10 (upneR (by decide) x), fun x => hJ.f11 (upneR (by decide) x), fun x => hJ.f12 (upneR (by decide) x), fun x => hJ.f13 (upneR (by decide) x), fun x => hJ.f14 (upneR (by decide) x), fun x => by obtain ⟨s, e1, e2⟩ := hJ.f15 (upneR (by decide) x); exact ⟨s, e1, fun y => e2 (by rw [upeqR (by decide)] at y; exact y)⟩, fun x => hJ.f16 (upneR (by decide) x), fun x => hJ.f17 (upneR (by decide) x), fun x => hJ.b (by rw [upeqR (by decide)] at x; exact x), fun x => by rw [upeqR (by decide)]; exact hJ.o17 (upneR (by decide) x), fun x => by rw [upeqR (by decide)]; exact hJ.o16 (upneR (by decide) x), ⟨hJ.w.1, fun y => hJ.w.2 (by rw [upeqR (by decide)] at y; exact y)⟩⟩, rfl⟩
    · have ho' := Option.some.inj ho
      subst ho'
      have HJ := Lib.hid hJ
      clear hJ haf
      try unfold pt
      go_simp
      have hJ := HJ.out
      exact hK _ _ ⟨_, _, _, _, _, _, _, _, _, _, _, _, _, _, _, _, _, _, ⟨fun x => hJ.f0 (upneR (by decide) x), fun x => hJ.f1 (upneR (by decide) x), fun x => hJ.f2 (upneR (by decide) x), fun x => hJ.f3 (upneR (by decide) x), fun x => hJ.f4 (upneR (by decide) x), fun x => hJ.f5 (upneR (by decide) x), fun x => hJ.f6 (upneR (by decide) x), fun x => hJ.f7 (upneR (by decide) x), fun x => hJ.f8 (upneR (by decide) x), fun x => hJ.f9 (upneR (by decide) x), fun _ => rfl, fun x => hJ.f11 (upneR (by decide) x), fun x => hJ.f12 (upneR (by decide) x), fun x => hJ.f13 (upneR (by decide) x), fun x => hJ.f14 (upneR (by decide) x), fun x => by obtain ⟨s, e1, e2⟩ := hJ.f15 (upneR (by decide) x); exact ⟨s, e1, fun y => e2 (by rw [upeqR (by decide)] at y; exact y)⟩, fun x => hJ.f16 (upneR (by decide) x), fun x => hJ.f17 (upneR (by decide) x), fun x => hJ.b (by rw [upeqR (by decide)] at x; exact x), fun x => by rw [upeqR (by decide)]; exact hJ.o17 (upneR (by decide) x), fun x => by rw [upeqR (by decide)]; exact hJ.o16 (upneR (by decide) x), ⟨hJ.w.1, fun y => hJ.w.2 (by rw [upeqR (by decide)] at y; exact y)⟩⟩, rfl⟩
    · have ho' := Option.some.inj ho
      subst ho'
      simp [Region.binds] at haf
      have p9 : listed.getD 9 true = true := waitsR (by simp [haf])
      have p10 : listed.getD 10 true = true := waitsR (by simp [haf])
      obtain rfl := hJ.f9 p9
      obtain rfl := hJ.f10 p10
      have HJ := Lib.hid hJ
      clear hJ haf
      try unfold pt
      go_simp
      have hJ := HJ.out
      exact hK _ _ ⟨_, _, _, _, _, _, _, _, _, _, _, _, _, _, _, _, _, _, ⟨fun x => hJ.f0 (upneR (by decide) x), fun x => hJ.f1 (upneR (by decide) x), fun x => hJ.f2 (upneR (by decide) x), fun x => hJ.f3 (upneR (by decide) x), fun x => hJ.f4 (upneR (by decide) x), fun x => hJ.f5 (upneR (by decide) x), fun x => hJ.f6 (upneR (by decide) x), fun x => hJ.f7 (upneR (by decide) x), fun x => hJ.f8 (upneR (by decide) x), fun x => hJ.f9 (upneR (by decide) x), fun x => hJ.f10 (upneR (by decide) x), fun _ => rfl, fun x => hJ.f12 (upneR (by decide) x), fun x => hJ.f13 (upneR (by decide) x), fun x => hJ.f14 (upneR (by decide) x), fun x => by obtain ⟨s, e1, e2⟩ := hJ.f15 (upneR (by decide) x); exact ⟨s, e1, fun y => e2 (by rw [upeqR (by decide)] at y; exact y)⟩, fun x => hJ.f16 (upneR (by decide) x), fun x => hJ.f17 (upneR (by decide) x), fun x => hJ.b (by rw [upeqR (by decide)] at x; exact x), fun x => by rw [upeqR (by decide)]; exact hJ.o17 (upneR (by decide) x), fun x => by rw [upeqR (by decide)]; exact hJ.o16 (upneR (by decide) x), ⟨hJ.w.1, fun y => hJ.w.2 (by rw [upeqR (by decide)] at y; exact y)⟩⟩, rfl⟩
    · have ho' := Option.some.inj ho
      subst ho'
      simp [Region.binds] at haf
      have p11 : listed.getD 11 true = true := waitsR (by simp [haf])
      obtain rfl := hJ.f11 p11
      have z2 := hm W hJ.w.1
      have HJ := Lib.hid hJ
      clear hJ haf
      try unfold pt
      go_simp
      have hJ := HJ.out
      exact hK _ _ ⟨_, _, _, _, _, _, _, _, _, _, _, _, _, _, _, _, _, _, ⟨fun x => hJ.f0 (upneR (by decide) x), fun x => hJ.f1 (upneR (by decide) x), fun x => hJ.f2 (upneR (by decide) x), fun x => hJ.f3 (upneR (by decide) x), fun x => hJ.f4 (upneR (by decide) x), fun x => hJ.f5 (upneR (by decide) x), fun x => hJ.f6 (upneR (by decide) x), fun x => hJ.f7 (upneR (by decide) x), fun x => hJ.f8 (upneR (by decide) x), fun x => hJ.f9 (upneR (by decide) x), fun x => hJ.f10 (upneR (by decide) x), fun x => hJ.f11 (upneR (by decide) x), fun _ => rfl, fun x => hJ.f13 (upneR (by decide) x), fun x => hJ.f14 (upneR (by decide) x), fun x => by obtain ⟨s, e1, e2⟩ := hJ.f15 (upneR (by decide) x); exact ⟨s, e1, fun y => e2 (by rw [upeqR (by decide)] at y; exact y)⟩, fun x => hJ.f16 (upneR (by decide) x), fun x => hJ.f17 (upneR (by decide) x), fun x => hJ.b (by rw [upeqR (by decide)] at x; exact x), fun x => by rw [upeqR (by decide)]; exact hJ.o17 (upneR (by decide) x), fun x => by rw [upeqR (by decide)]; exact hJ.o16 (upneR (by decide) x), ⟨hJ.w.1, fun y => hJ.w.2 (by rw [upeqR (by decide)] at y; exact y)⟩⟩, rfl⟩
    · have ho' := Option.some.inj ho
      subst ho'
      simp [Region.binds] at haf
      have p12 : listed.getD 12 true = true := waitsR (by simp [haf])
      obtain rfl := hJ.f12 p12
      have HJ := Lib.hid hJ
      clear hJ haf
      try unfold pt
      go_simp
      have hJ := HJ.out
      exact hK _ _ ⟨_, _, _, _, _, _, _, _, _, _, _, _, _, _, _, _, _, _, ⟨fun x => hJ.f0 (upneR (by decide) x), fun x => hJ.f1 (upneR (by decide) x), fun x => hJ.f2 (upneR (by decide) x), fun x => hJ.f3 (upneR (by decide) x), fun x => hJ.f4 (upneR (by decide) x), fun x => hJ.f5 (upneR (by decide) x), fun x => hJ.f6 (upneR (by decide) x), fun x => hJ.f7 (upneR (by decide) x), fun x => hJ.f8 (upneR (by decide) x), fun x => hJ.f9 (upneR (by decide) x), fun x => hJ.f10 (upneR (by decide) x), fun x => hJ.f11 (upneR (by decide) x), fun x => hJ.f12 (upneR (by decide) x), fun _ => rfl, fun x => hJ.f14 (upneR (by decide) x), fun x => by obtain ⟨s, e1, e2⟩ := hJ.f15 (upneR (by decide) x); exact ⟨s, e1, fun y => e2 (by rw [upeqR (by decide)] at y; exact y)⟩, fun x => hJ.f16 (upneR (by decide) x), fun x => hJ.f17 (upneR (by decide) x), fun x => hJ.b (by rw [upeqR (by decide)] at x; exact x), fun x => by rw [upeqR (by decide)]; exact hJ.o17 (upneR (by decide) x), fun x => by rw [upeqR (by decide)]; exact hJ.o16 (upneR (by decide) x), ⟨hJ.w.1, fun y => hJ.w.2 (by rw [upeqR (by decide)] at y; exact y)⟩⟩, rfl⟩
    · have ho' := Option.some.inj ho
      subst ho'
      simp [Region.binds] at haf
      have p13 : listed.getD 13 true = true := waitsR (by simp [haf])
      obtain rfl := hJ.f13 p13
      have HJ := Lib.hid hJ
      clear hJ haf
      try unfold pt
      go_simp
      have hJ := HJ.out
      exact hK _ _ ⟨_, _, _, _, _, _, _, _, _, _, _, _, _, _, _, _, _, _, ⟨fun x => hJ.f0 (upneR (by decide) x), fun x => hJ.f1 (upneR (by decide) x), fun x => hJ.f2 (upneR (by decide) x), fun x => hJ.f3 (upneR (by decide) x), fun x => hJ.f4 (upneR (by decide) x), fun x => hJ.f5 (upneR (by decide) x), fun x => hJ.f6 (upneR (by decide) x), fun x => hJ.f7 (upneR (by decide) x), fun x => hJ.f8 (upneR (by decide) x), fun x => hJ.f9 (upneR (by decide) x), fun x => hJ.f10 (upneR (by decide) x), fun x => hJ.f11 (upneR (by decide) x), fun x => hJ.f12 (upneR (by decide) x), fun x => hJ.f13 (upneR (by decide) x), fun _ => rfl, fun x => by obtain ⟨s, e1, e2⟩ := hJ.f15 (upneR (by decide) x); exact ⟨s, e1, fun y => e2 (by rw [upeqR (by decide)] at y; exact y)⟩, fun x => hJ.f16 (upneR (by decide) x), fun x => hJ.f17 (upneR (by decide) x), fun x => hJ.b (by rw [upeqR (by decide)] at x; exact x), fun x => by rw [upeqR (by decide)]; exact hJ.o17 (upneR (by decide) x), fun x => by rw [upeqR (by decide)]; exact hJ.o16 (upneR (by decide) x), ⟨hJ.w.1, fun y => hJ.w.2 (by rw [upeqR (by decide)] at y; exact y)⟩⟩, rfl⟩
    · have ho' := Option.some.inj ho
      subst ho'
      simp [Region.binds] at haf
      have p7 : listed.getD 7 true = true := waitsR (by simp [haf])
      have p14 : listed.getD 14 true = true := waitsR (by simp [haf])
      obtain rfl := hJ.f7 p7
      obtain rfl := hJ.f14 p14
      have HJ := Lib.hid hJ
      clear hJ haf
      try unfold pt
      go_simp
      have hJ := HJ.out
      exact hK _ _ ⟨_, _, _, _, _, _, _, _, _, _, _, _, _, _, _, _, _, _, ⟨fun x => hJ.f0 (upneR (by decide) x), fun x => hJ.f1 (upneR (by decide) x), fun x => hJ.f2 (upneR (by decide) x), fun x => hJ.f3 (upneR (by decide) x), fun x => hJ.f4 (upneR (by decide) x), fun x => hJ.f5 (upneR (by decide) x), fun x => hJ.f6 (upneR (by decide) x), fun x => hJ.f7 (upneR (by decide) x), fun x => hJ.f8 (upneR (by decide) x), fun x => hJ.f9 (upneR (by decide) x), fun x => hJ.f10 (upneR (by decide) x), fun x => hJ.f11 (upneR (by decide) x), fun x => hJ.f12 (upneR (by decide) x), fun x => hJ.f13 (upneR (by decide) x), fun x => hJ.f14 (upneR (by decide) x), fun _ => ⟨_, rfl, fun _ => Blk.new _ _ _⟩, fun x => by obtain ⟨s, e1, e2⟩ := hJ.f16 (upneR (by decide) x); exact ⟨s, e1, e2.alloc _⟩, fun x => by obtain ⟨s, e1, e2⟩ := hJ.f17 (upneR (by decide) x); exact ⟨s, e1, e2.alloc _⟩, fun x => hJ.b (by rw [upeqR (by decide)] at x; exact x), fun x => by rw [upeqR (by decide)]; exact hJ.o17 (upneR (by decide) x), fun x => by rw [upeqR (by decide)]; exact hJ.o16 (upneR (by decide) x), ⟨hJ.w.1.alloc hJ.w.1.size _, fun y => (hJ.w.2 (by rw [upeqR (by decide)] at y; exact y)).alloc _⟩⟩, rfl⟩
    · have ho' := Option.some.inj ho
      subst ho'
      simp [Region.binds] at haf
      have p0 : listed.getD 0 true = true := waitsR (by simp [haf])
      have p15 : listed.getD 15 true = true := waitsR (by simp [haf])
      obtain rfl := hJ.f0 p0
      obtain ⟨s15, rfl, hE15⟩ := hJ.f15 p15
      have hown16 := hJ.w.2 hl
      have hblk16 := hE15 hl
      have HJ := Lib.hid hJ
      clear hJ haf
      try unfold pt
      refine step_append_rdR _ (by rfl) (.tmp 77) (.tmp 92) _ (by rfl) w1.heap.size 5 i0 _ 1 1 hU hi0 hz0 hz1 hz2 rfl (by omega) (.slice A1 n c1) n (bc R) (by rfl) (hown16) _ (some ⟨s15, 0, none⟩) 2 2 [.int .u8 ((q : Int) / 256), .int .u8 ((q : Int) % 256)] (by rfl) ((hblk16).rd 2 1 (by simp)) (by simp [Value.oneCell']) ?len ?byt ?bas ?_
      case len => (unfold maxLen; omega)
      case byt => omega
      case bas => exact HJ.out.w.1.size
      intro A' c' w' hown hgr _
      have hJ := HJ.out
      exact hK _ _ ⟨_, _, _, _, _, _, _, _, _, _, _, _, _, _, _, _, _, _, ⟨fun x => hJ.f0 (upneR (by decide) x), fun x => hJ.f1 (upneR (by decide) x), fun x => hJ.f2 (upneR (by decide) x), fun x => hJ.f3 (upneR (by decide) x), fun x => hJ.f4 (upneR (by decide) x), fun x => hJ.f5 (upneR (by decide) x), fun x => hJ.f6 (upneR (by decide) x), fun x => hJ.f7 (upneR (by decide) x), fun x => hJ.f8 (upneR (by decide) x), fun x => hJ.f9 (upneR (by decide) x), fun x => hJ.f10 (upneR (by decide) x), fun x => hJ.f11 (upneR (by decide) x), fun x => hJ.f12 (upneR (by decide) x), fun x => hJ.f13 (upneR (by decide) x), fun x => hJ.f14 (upneR (by decide) x), fun x => by obtain ⟨s, e1, e2⟩ := hJ.f15 (upneR (by decide) x); exact ⟨s, e1, fun y => absurd y (by rw [upselfR]; decide)⟩, fun _ => ⟨_, rfl, hown⟩, fun x => by obtain ⟨s, e1, e2⟩ := hJ.f17 (upneR (by decide) x); exact ⟨s, e1, absurd (hJ.o17 (upneR (by decide) x)) (by rw [hl]; decide)⟩, fun x => hJ.b (by rw [upeqR (by decide)] at x; exact x), fun _ => upselfR, fun _ => by rw [upeqR (by decide)]; exact p0, ⟨hJ.w.1.grown hgr hJ.w.1.size (fun q hq => (hown16.lt q hq).1), fun y => absurd y (by rw [upselfR]; decide)⟩⟩, rfl⟩
    · have ho' := Option.some.inj ho
      subst ho'
      simp [Region.binds] at haf
      have p16 : listed.getD 16 true = true := waitsR (by simp [haf])
      obtain ⟨s16, rfl, hE16⟩ := hJ.f16 p16
      have HJ := Lib.hid hJ
      clear hJ haf
      try unfold pt
      go_simp
      have hJ := HJ.out
      exact hK _ _ ⟨_, _, _, _, _, _, _, _, _, _, _, _, _, _, _, _, _, _, ⟨fun x => hJ.f0 (upneR (by decide) x), fun x => hJ.f1 (upneR (by decide) x), fun x => hJ.f2 (upneR (by decide) x), fun x => hJ.f3 (upneR (by decide) x), fun x => hJ.f4 (upneR (by decide) x), fun x => hJ.f5 (upneR (by decide) x), fun x => hJ.f6 (upneR (by decide) x), fun x => hJ.f7 (upneR (by decide) x), fun x => hJ.f8 (upneR (by decide) x), fun x => hJ.f9 (upneR (by decide) x), fun x => hJ.f10 (upneR (by decide) x), fun x => hJ.f11 (upneR (by decide) x), fun x => hJ.f12 (upneR (by decide) x), fun x => hJ.f13 (upneR (by decide) x), fun x => hJ.f14 (upneR (by decide) x), fun x => by obtain ⟨s, e1, e2⟩ := hJ.f15 (upneR (by decide) x); exact ⟨s, e1, fun y => e2 (by rw [upeqR (by decide)] at y; exact y)⟩, fun x => hJ.f16 (upneR (by decide) x), fun _ => ⟨_, rfl, hE16⟩, fun x => absurd x (by rw [upselfR]; decide), fun _ => by rw [upeqR (by decide)]; exact p16, fun x => by rw [upeqR (by decide)]; exact hJ.o16 (upneR (by decide) x), ⟨hJ.w.1, fun y => hJ.w.2 (by rw [upeqR (by decide)] at y; exact y)⟩⟩, rfl⟩
  case fin =>
    intro listed a W hall hI
    obtain ⟨y5, y77, y78, y79, y80, y81, y82, y83, y84, y85, y86, y87, y88, y89, y90, y91, y92, y93, hJ, rfl⟩ := hI
    exact HQ.out listed W _ _ _ _ _ _ _ _ _ _ _ _ _ _ _ _ _ _ hall hJ
structure MJ7 (wr : World) (B : Nat) (A1 : Option Addr) (c1 : Nat) (R : List UInt8) (n : Nat) (listed : Array Bool) (W : World) (y2 y3 y94 y95 y96 y97 y98 y99 : Value) : Prop where
  f0 : listed.getD 0 true = true → y94 = .slice A1 n c1
  f1 : listed.getD 1 true = true → y95 = .string (ba R)
  f2 : listed.getD 2 true = true → y96 = .string (ba (sealL R))
  f3 : listed.getD 3 true = true → y97 = .slice A1 n c1
  f4 : listed.getD 4 true = true → y98 = .string (ba R)
  f5 : listed.getD 5 true = true → y99 = .string (ba (sealL R ++ R))
  f6 : listed.getD 6 true = true → y2 = .string (ba (sealL R ++ R))
  f7 : listed.getD 7 true = true → y3 = .int .i64 0
  w : Below wr.heap.size wr W ∧ W.ownsRow B 5 1 (.slice A1 n c1) n (bc R)
noncomputable def mreg17C : Code := ((Tryd.f25.body.bind (regAt 17)).getD .skip)
set_option maxRecDepth 1000000 in
set_option maxHeartbeats 8000000 in
theorem mreg17 (wr : World) (B : Nat) (A1 : Option Addr) (c1 : Nat) (R : List UInt8) (n : Nat) {v0 v1 v2 v3 v4 v6 v7 v8 v9 v10 v11 v12 v13 v14 v15 v16 v17 v18 v19 v20 v21 v22 v23 v24 v25 v26 v27 v28 v29 v30 v31 v32 v33 v34 v35 v36 v37 v38 v39 v40 v41 v42 v43 v44 v45 v46 v47 v48 v49 v50 v51 v52 v53 v54 v55 v56 v57 v58 v59 v60 v61 v62 v63 v64 v65 v66 v67 v68 v69 v70 v71 v72 v73 v74 v75 v76 v77 v78 v79 v80 v81 v82 v83 v84 v85 v86 v87 v88 v89 v90 v91 v92 v93 v94 v95 v96 v97 v98 v99 : Value} (Q : Exit → Act → World → Prop) (hown : wr.ownsRow B 5 1 (.slice A1 n c1) n (bc R)) (hn1 : 0 < n) (hn : n ≤ 2000) (hsz : (ba R).size = n)
    (hQ : ∀ (listed : Array Bool) (W : World) (y2 y3 y94 y95 y96 y97 y98 y99 : Value), (∀ i, i < 8 → listed.getD i true = true) → MJ7 wr B A1 c1 R n listed W y2 y3 y94 y95 y96 y97 y98 y99 → Q .normal ⟨#[v0, v1, y2, y3, v4, .slice A1 n c1, v6, v7, v8, v9, v10, v11, v12, v13, v14, v15, v16, v17, v18, v19, v20, v21, v22, v23, v24, v25, v26, v27, v28, v29, v30, v31, v32, v33, v34, v35, v36, v37, v38, v39, v40, v41, v42, v43, v44, v45, v46, v47, v48, v49, v50, v51, v52, v53, v54, v55, v56, v57, v58, v59, v60, v61, v62, v63, v64, v65, v66, v67, v68, v69, v70, v71, v72, v73, v74, v75, v76, v77, v78, v79, v80, v81, v82, v83, v84, v85, v86, v87, v88, v89, v90, v91, v92, v93, y94, y95, y96, y97, y98, y99], []⟩ W) :
    Code.wp Tryd.prog mreg17C Q ⟨#[v0, v1, v2, v3, v4, .slice A1 n c1, v6, v7, v8, v9, v10, v11, v12, v13, v14, v15, v16, v17, v18, v19, v20, v21, v22, v23, v24, v25, v26, v27, v28, v29, v30, v31, v32, v33, v34, v35, v36, v37, v38, v39, v40, v41, v42, v43, v44, v45, v46, v47, v48, v49, v50, v51, v52, v53, v54, v55, v56, v57, v58, v59, v60, v61, v62, v63, v64, v65, v66, v67, v68, v69, v70, v71, v72, v73, v74, v75, v76, v77, v78, v79, v80, v81, v82, v83, v84, v85, v86, v87, v88, v89, v90, v91, v92, v93, v94, v95, v96, v97, v98, v99], []⟩ wr := by
  have HQ := Lib.hid hQ
  clear hQ
  conv => arg 2; whnf
  refine wp_region_inv (fun listed a W => ∃ y2 y3 y94 y95 y96 y97 y98 y99, MJ7 wr B A1 c1 R n listed W y2 y3 y94 y95 y96 y97 y98 y99 ∧ a = ⟨#[v0, v1, y2, y3, v4, .slice A1 n c1, v6, v7, v8, v9, v10, v11, v12, v13, v14, v15, v16, v17, v18, v19, v20, v21, v22, v23, v24, v25, v26, v27, v28, v29, v30, v31, v32, v33, v34, v35, v36, v37, v38, v39, v40, v41, v42, v43, v44, v45, v46, v47, v48, v49, v50, v51, v52, v53, v54, v55, v56, v57, v58, v59, v60, v61, v62, v63, v64, v65, v66, v67, v68, v69, v70, v71, v72, v73, v74, v75, v76, v77, v78, v79, v80, v81, v82, v83, v84, v85, v86, v87, v88, v89, v90, v91, v92, v93, y94, y95, y96, y97, y98, y99], []⟩) (by kernel_rfl) (ord_of (by kernel_rfl)) ?start ?step ?fin
  case start => exact ⟨_, _, _, _, _, _, _, _, ⟨fun h => absurd h (by decide), fun h => absurd h (by decide), fun h => absurd h (by decide), fun h => absurd h (by decide), fun h => absurd h (by decide), fun h => absurd h (by decide), fun h => absurd h (by decide), fun h => absurd h (by decide), ⟨Below.drewN' (Below.refl _ _) 1, hown.drew⟩⟩, rfl⟩
  case step =>
    intro i o ho listed a W hl haf hI K hK
    obtain ⟨y2, y3, y94, y95, y96, y97, y98, y99, hJ, rfl⟩ := hI
    have hi : i < 8 := (Array.getElem?_eq_some_iff.1 ho).1
    have h16 : i = 0 ∨ i = 1 ∨ i = 2 ∨ i = 3 ∨ i = 4 ∨ i = 5 ∨ i = 6 ∨ i = 7 := by omega
    rcases h16 with rfl | rfl | rfl | rfl | rfl | rfl | rfl | rfl
    · have ho' := Option.some.inj ho
      subst ho'
      have HJ := Lib.hid hJ
      clear hJ haf
      try unfold pt
      go_simp
      have hJ := HJ.out
      exact hK _ _ ⟨_, _, _, _, _, _, _, _, ⟨fun _ => rfl, fun x => hJ.f1 (upneR (by decide) x), fun x => hJ.f2 (upneR (by decide) x), fun x => hJ.f3 (upneR (by decide) x), fun x => hJ.f4 (upneR (by decide) x), fun x => hJ.f5 (upneR (by decide) x), fun x => hJ.f6 (upneR (by decide) x), fun x => hJ.f7 (upneR (by decide) x), hJ.w⟩, rfl⟩
    · have ho' := Option.some.inj ho
      subst ho'
      simp [Region.binds] at haf
      have p0 : listed.getD 0 true = true := waitsR (by simp [haf])
      obtain rfl := hJ.f0 p0
      have kc := conv_own hJ.w.2 hn1
      have HJ := Lib.hid hJ
      clear hJ haf
      try unfold pt
      go_simp
      have hJ := HJ.out
      exact hK _ _ ⟨_, _, _, _, _, _, _, _, ⟨fun x => hJ.f0 (upneR (by decide) x), fun _ => rfl, fun x => hJ.f2 (upneR (by decide) x), fun x => hJ.f3 (upneR (by decide) x), fun x => hJ.f4 (upneR (by decide) x), fun x => hJ.f5 (upneR (by decide) x), fun x => hJ.f6 (upneR (by decide) x), fun x => hJ.f7 (upneR (by decide) x), hJ.w⟩, rfl⟩
    · have ho' := Option.some.inj ho
      subst ho'
      simp [Region.binds] at haf
      have p1 : listed.getD 1 true = true := waitsR (by simp [haf])
      obtain rfl := hJ.f1 p1
      have HJ := Lib.hid hJ
      clear hJ haf
      try unfold pt
      go_simp
      go_at_call 51
      refine (SealOf_any (ba R) _ (by unfold maxLen; omega)).mono ?_
      rintro e w2 ⟨rfl, hb2⟩
      have hJ := HJ.out
      exact hK _ _ ⟨_, _, _, _, _, _, _, _, ⟨fun x => hJ.f0 (upneR (by decide) x), fun x => hJ.f1 (upneR (by decide) x), fun _ => rfl, fun x => hJ.f3 (upneR (by decide) x), fun x => hJ.f4 (upneR (by decide) x), fun x => hJ.f5 (upneR (by decide) x), fun x => hJ.f6 (upneR (by decide) x), fun x => hJ.f7 (upneR (by decide) x), ⟨hJ.w.1.trans (hb2.mono hJ.w.1.size), own_below hJ.w.2 hb2⟩⟩, rfl⟩
    · have ho' := Option.some.inj ho
      subst ho'
      have HJ := Lib.hid hJ
      clear hJ haf
      try unfold pt
      go_simp
      have hJ := HJ.out
      exact hK _ _ ⟨_, _, _, _, _, _, _, _, ⟨fun x => hJ.f0 (upneR (by decide) x), fun x => hJ.f1 (upneR (by decide) x), fun x => hJ.f2 (upneR (by decide) x), fun _ => rfl, fun x => hJ.f4 (upneR (by decide) x), fun x => hJ.f5 (upneR (by decide) x), fun x => hJ.f6 (upneR (by decide) x), fun x => hJ.f7 (upneR (by decide) x), hJ.w⟩, rfl⟩
    · have ho' := Option.some.inj ho
      subst ho'
      simp [Region.binds] at haf
      have p3 : listed.getD 3 true = true := waitsR (by simp [haf])
      obtain rfl := hJ.f3 p3
      have kc := conv_own hJ.w.2 hn1
      have HJ := Lib.hid hJ
      clear hJ haf
      try unfold pt
      go_simp
      have hJ := HJ.out
      exact hK _ _ ⟨_, _, _, _, _, _, _, _, ⟨fun x => hJ.f0 (upneR (by decide) x), fun x => hJ.f1 (upneR (by decide) x), fun x => hJ.f2 (upneR (by decide) x), fun x => hJ.f3 (upneR (by decide) x), fun _ => rfl, fun x => hJ.f5 (upneR (by decide) x), fun x => hJ.f6 (upneR (by decide) x), fun x => hJ.f7 (upneR (by decide) x), hJ.w⟩, rfl⟩
    · have ho' := Option.some.inj ho
      subst ho'
      simp [Region.binds] at haf
      have p2 : listed.getD 2 true = true := waitsR (by simp [haf])
      have p4 : listed.getD 4 true = true := waitsR (by simp [haf])
      obtain rfl := hJ.f2 p2
      obtain rfl := hJ.f4 p4
      have zs : (ba (sealL R)).size = 4 := rfl
      have zr : ¬ 9223372036854775807 < 4 + (ba R).size := by rw [hsz]; omega
      have zq : ¬ 9223372036854775807 < 4 + n := by omega
      have HJ := Lib.hid hJ
      clear hJ haf
      try unfold pt
      go_simp
      have hJ := HJ.out
      exact hK _ _ ⟨_, _, _, _, _, _, _, _, ⟨fun x => hJ.f0 (upneR (by decide) x), fun x => hJ.f1 (upneR (by decide) x), fun x => hJ.f2 (upneR (by decide) x), fun x => hJ.f3 (upneR (by decide) x), fun x => hJ.f4 (upneR (by decide) x), fun _ => congrArg Value.string (ba_app (sealL R) R), fun x => hJ.f6 (upneR (by decide) x), fun x => hJ.f7 (upneR (by decide) x), hJ.w⟩, rfl⟩
    · have ho' := Option.some.inj ho
      subst ho'
      simp [Region.binds] at haf
      have p5 : listed.getD 5 true = true := waitsR (by simp [haf])
      obtain rfl := hJ.f5 p5
      have HJ := Lib.hid hJ
      clear hJ haf
      try unfold pt
      go_simp
      have hJ := HJ.out
      exact hK _ _ ⟨_, _, _, _, _, _, _, _, ⟨fun x => hJ.f0 (upneR (by decide) x), fun x => hJ.f1 (upneR (by decide) x), fun x => hJ.f2 (upneR (by decide) x), fun x => hJ.f3 (upneR (by decide) x), fun x => hJ.f4 (upneR (by decide) x), fun x => hJ.f5 (upneR (by decide) x), fun _ => rfl, fun x => hJ.f7 (upneR (by decide) x), hJ.w⟩, rfl⟩
    · have ho' := Option.some.inj ho
      subst ho'
      have HJ := Lib.hid hJ
      clear hJ haf
      try unfold pt
      go_simp
      have hJ := HJ.out
      exact hK _ _ ⟨_, _, _, _, _, _, _, _, ⟨fun x => hJ.f0 (upneR (by decide) x), fun x => hJ.f1 (upneR (by decide) x), fun x => hJ.f2 (upneR (by decide) x), fun x => hJ.f3 (upneR (by decide) x), fun x => hJ.f4 (upneR (by decide) x), fun x => hJ.f5 (upneR (by decide) x), fun x => hJ.f6 (upneR (by decide) x), fun _ => rfl, hJ.w⟩, rfl⟩
  case fin =>
    intro listed a W hall hI
    obtain ⟨y2, y3, y94, y95, y96, y97, y98, y99, hJ, rfl⟩ := hI
    exact HQ.out listed W _ _ _ _ _ _ _ _ hall hJ
set_option maxRecDepth 100000 in
set_option maxHeartbeats 40000000 in
theorem ModuleBytes_any (m : Mod) (A A' : Option Addr) (c c' : Nat) (w : World) (hn : m.name.size ≤ maxLen) (hr : RdI w w.heap.size A m.code) (hr' : RdN w w.heap.size A' m.data) (hl : m.code.length ≤ maxLen) (hl' : m.data.length ≤ maxLen) :
    Calls Tryd.prog 25 #[.agg #[.string m.name, .slice A m.code.length c, .slice A' m.data.length c']] w fun e w' => e = .returned (.tuple #[.string (encR m).1, .int .i64 (encR m).2]) ∧ Below w.heap.size w w' := by
  have HL := Lib.hid hl
  have HL' := Lib.hid hl'
  have ha : ∀ o, Below w.heap.size w (w.alloc o) := fun o => (Below.refl _ _).alloc (Nat.le_refl _) o
  have CK := Lib.hid (fun W hW => ModFault_any m A A' c c' W hn ((hr.below hW).more (Below.size hW)) ((hr'.below hW).more (Below.size hW)) hl hl')
  by_cases h0 : modCheck m = 0
  · have HC := Lib.hid h0
    obtain ⟨hnm, h64, hod, hv⟩ := modCheck_zero h0
    have h200 := ((check_zero_iff m.code).1 (verify_check hv)).1
    have hk := codeOk_of_check (verify_check hv)
    have hU := Tryd.underlying67
    have hUS := Tryd.underlying9
    obtain ⟨i0, hi0, hz0, hz1, hz2⟩ := info_parts info_u8
    have h6 : m.name.size ≤ 6 := by
      unfold nameOk at hnm
      simp at hnm
      omega
    unfold maxLen at hn
    clear h0 hv
    go_enter Tryd.func25, Tryd.ntmps25
    go_wp2_with fail
    refine (CK.out _ (ha _)).mono ?_
    rw [HC.out]
    rintro e w1 ⟨rfl, hb1⟩
    obtain ⟨hc1, hf1⟩ := bcell hb1
    have hz := hb1.size
    simp at hz
    have hz1' : w.heap.size < w1.heap.size := by omega
    have hBX := ((Blk.new w 45 #[.string m.name, .slice A m.code.length c, .slice A' m.data.length c']).below hb1 (by simp))
    have HBX := Lib.hid hBX
    have hbw1 := Lib.hid ((ha (.cells #[.string m.name, .slice A m.code.length c, .slice A' m.data.length c'] 45)).trans (hb1.mono (Nat.le_of_lt (by simp))))
    have x0 := hBX.cell 0
    have x1 := hBX.cell 1
    have x2 := hBX.cell 2
    simp at x0 x1 x2
    clear hb1 hBX
    go_wp2_with (first
      | (at_builtin
         refine Go.Lib.wpList_append_own_string _ rfl (.tmp 19) (.tmp 21) _ _ rfl w1.heap.size 5 i0 hU hUS hi0 hz0 hz1 hz2 (.slice (some ⟨w1.heap.size, 0, none⟩) 1 1) 1 [.int .u8 (m.name.size : Int)] rfl ?own m.name rfl ?len ?byt ?bas ?_
         case own => exact World.ownsRow_lit w1 #[.int .u8 (m.name.size : Int)] 1 (Nat.le_refl _) (by simp [maxLen]) rfl
         case len => (unfold maxLen; omega)
         case byt => omega
         case bas => simp
         intro v1 w2 hv1 hg1 _
         have hb2 : Below w1.heap.size w1 w2 := ((Below.refl _ _).alloc (Nat.le_refl _) _).grown hg1 (by simp) (by simp [Value.ownBlock])
         have hBX2 := HBX.out.below hb2 (by omega)
         have y1 := hBX2.cell 1
         simp at y1
         obtain ⟨A1, c1, rfl⟩ := own_slice hv1
         have hv2 : w2.ownsRow w1.heap.size 5 1 (.slice A1 (1 + m.name.size) c1) (1 + m.name.size) (bc ([u8 m.name.size] ++ m.name.data.toList)) := by rw [bc_app, ← bc_1 (by omega)]; exact hv1
         clear hv1 hg1 hBX2)
      | (at_builtin
         refine wpList_append_rd _ rfl (.tmp 23) (.tmp 28) _ rfl w1.heap.size 5 i0 _ 1 1 hU hi0 hz0 hz1 hz2 rfl (by omega) (.slice A1 (1 + m.name.size) c1) (1 + m.name.size) (bc ([u8 m.name.size] ++ m.name.data.toList)) rfl (hv2.alloc _) _ (some ⟨w2.heap.size, 0, none⟩) 1 1 [.int .u8 (m.code.length : Int)] rfl ((Blk.new w2 _ #[.int .u8 (m.code.length : Int)]).rd 1 1 (by simp)) (by simp [Value.oneCell']) ?len ?byt ?bas ?_
         case len => (unfold maxLen; omega)
         case byt => omega
         case bas => (have := hb2.size; simp; omega)
         intro v2 w3 hv3 hg3 _
         have hb3 : Below w1.heap.size w1 w3 := (hb2.alloc hb2.size _).grown hg3 (by have := hb2.size; simp; omega) (fun q hq => (hv2.lt q hq).1)
         obtain ⟨A2, c2, rfl⟩ := own_slice hv3
         rw [bc_1 (by omega), ← bc_app] at hv3
         have hBX3 := HBX.out.below hb3 (by omega)
         clear hg3 hv2 hb2))
    go_loopw [5, 6] (fun s i wr => Cnt m.code.length i fun k => ∃ (P : List UInt8) (n : Nat) (A1 : Option Addr) (c1 : Nat), s = .slice A1 n c1 ∧ n ≤ 8 + 4 * k ∧ 1 ≤ n ∧ Below w1.heap.size w1 wr ∧ wr.ownsRow w1.heap.size 5 1 (.slice A1 n c1) n (bc P) ∧ Hid (P = [u8 m.name.size] ++ m.name.data.toList ++ [u8 m.code.length] ++ (m.code.take k).flatMap insB)) (fun _ i _ => m.code.length - (intOf i).toNat)
    case atStart => exact ⟨0, Nat.zero_le _, rfl, _, _, A2, c2, rfl, by omega, by omega, hb3, hv3, by show _ = _; simp⟩
    case round =>
      obtain ⟨k, hk', rfl, P, n, A1, c1, rfl, hP, hP1, hbr, hown, HP⟩ := hrel
      have hBXr := HBX.out.below hbr (by omega)
      have z1 := hBXr.cell 1
      have z2 := hBXr.cell 2
      simp at z1 z2
      have hbw := hbw1.out.trans (hbr.mono hbw1.out.size)
      have hzr := hbr.size
      by_cases hlt : k < m.code.length
      · obtain ⟨b, o, rfl, hbB, hcell⟩ := hr (by omega)
        obtain ⟨c0, c1', c2', c3⟩ := hcell k hlt
        rw [← hbw.cell (p := ⟨b, _, none⟩) hbB] at c0 c1' c2' c3
        have hbs := Nat.lt_of_lt_of_le hbB hbw.size
        have hik := hk _ (List.getElem_mem hlt)
        have HG : Hid ((m.code.take (k + 1)).flatMap insB = (m.code.take k).flatMap insB ++ insB m.code[k]) := by
          show _ = _
          rw [List.take_succ_eq_append_getElem hlt, List.flatMap_append]
          simp
        obtain ⟨x, hx⟩ : ∃ x, x = m.code[k] := ⟨_, rfl⟩
        rw [← hx] at c0 c1' c2' c3 hik HG
        obtain ⟨op, a, bb, cc⟩ := x
        obtain ⟨i1, i2, i3, i4, i5, i6, i7, i8⟩ := hik
        simp only at c0 c1' c2' c3 i1 i2 i3 i4 i5 i6 i7 i8
        obtain ⟨qo, rfl⟩ : ∃ q : Nat, op = (q : Int) := ⟨op.toNat, by omega⟩
        obtain ⟨qa, rfl⟩ : ∃ q : Nat, a = (q : Int) := ⟨a.toNat, by omega⟩
        obtain ⟨qb, rfl⟩ : ∃ q : Nat, bb = (q : Int) := ⟨bb.toNat, by omega⟩
        obtain ⟨qc, rfl⟩ : ∃ q : Nat, cc = (q : Int) := ⟨cc.toNat, by omega⟩
        clear hx hcell hr
        have hwo : IntKind.u8.wrap (qo : Int) = (qo : Int) := wrap_u8 (by omega) (by omega)
        have hwb : IntKind.u8.wrap (16 * (qa : Int) + (qb : Int)) = 16 * (qa : Int) + (qb : Int) := wrap_u8 (by omega) (by omega)
        have hwc : IntKind.u8.wrap ((qc : Int) / 256) = (qc : Int) / 256 := wrap_u8 (by omega) (by omega)
        have hwd : IntKind.u8.wrap ((qc : Int) % 256) = (qc : Int) % 256 := wrap_u8 (by omega) (by omega)
        go_wp2_with (at_builtin
                     refine wpList_append_rd _ rfl (.tmp 42) (.tmp 61) _ rfl w1.heap.size 5 i0 _ 1 1 hU hi0 hz0 hz1 hz2 rfl (by omega) (.slice A1 n c1) n (bc P) rfl ((hown.alloc _).alloc _) _ (some ⟨wr.heap.size + 1, 0, none⟩) 4 4 [.int .u8 (qo : Int), .int .u8 (16 * (qa : Int) + (qb : Int)), .int .u8 ((qc : Int) / 256), .int .u8 ((qc : Int) % 256)] rfl ((Blk.new' (by simp)).rd 4 1 (by simp)) (by simp [Value.oneCell']) ?len ?byt ?bas ?_
                     case len => (unfold maxLen; omega)
                     case byt => omega
                     case bas => (simp; omega)
                     intro v2 w3 hv3 hg3 _
                     have hb3 : Below w1.heap.size w1 w3 := ((hbr.alloc hbr.size _).alloc (by simp; omega) _).grown hg3 (by simp; omega) (fun q hq => (hown.lt q hq).1)
                     obtain ⟨A2, c2, rfl⟩ := own_slice hv3
                     rw [bc_ins (by omega) (by omega) (by omega), ← bc_app] at hv3)
        go_roundw
        case rel => exact ⟨k + 1, by omega, by go_num, _, _, A2, c2, rfl, by omega, by omega, hb3, hv3, by show _ = _; rw [HP.out, HG.out, List.append_assoc]; rfl⟩
        case measure => simp [intOf]; omega
      · have hkk : k = m.code.length := by omega
        subst hkk
        go_wp2_with (at_builtin
                     refine wpList_append_rd _ rfl (.tmp 63) (.tmp 68) _ rfl w1.heap.size 5 i0 _ 1 1 hU hi0 hz0 hz1 hz2 rfl (by omega) (.slice A1 n c1) n (bc P) rfl (hown.alloc _) _ (some ⟨wr.heap.size, 0, none⟩) 1 1 [.int .u8 (m.data.length : Int)] rfl ((Blk.new wr _ #[.int .u8 (m.data.length : Int)]).rd 1 1 (by simp)) (by simp [Value.oneCell']) ?len ?byt ?bas ?_
                     case len => (unfold maxLen; omega)
                     case byt => omega
                     case bas => (simp; omega)
                     intro v2 w3 hv3 hg3 _
                     have hb3 : Below w1.heap.size w1 w3 := (hbr.alloc hbr.size _).grown hg3 (by simp; omega) (fun q hq => (hown.lt q hq).1)
                     obtain ⟨A2, c2, rfl⟩ := own_slice hv3
                     rw [bc_1 (by omega), ← bc_app] at hv3
                     clear hg3)
        go_loopw [5, 8] (fun s i wq => Cnt m.data.length i fun j => ∃ (R : List UInt8) (n : Nat) (A1 : Option Addr) (c1 : Nat), s = .slice A1 n c1 ∧ n ≤ 900 + 2 * j ∧ 1 ≤ n ∧ Below w1.heap.size w1 wq ∧ wq.ownsRow w1.heap.size 5 1 (.slice A1 n c1) n (bc R) ∧ Hid (R = P ++ [u8 m.data.length] ++ (m.data.take j).flatMap wordB)) (fun _ i _ => m.data.length - (intOf i).toNat)
        case atStart => exact ⟨0, Nat.zero_le _, rfl, _, _, A2, c2, rfl, by omega, by omega, hb3, hv3, by show _ = _; simp⟩
        case round =>
          clear z1 z2 hBXr hown hbw hzr hbr
          obtain ⟨j, hj', rfl, R, n, A1, c1, rfl, hP, hP1, hbr, hown, HR⟩ := hrel
          have hBXr := HBX.out.below hbr (by omega)
          have z2 := hBXr.cell 2
          simp at z2
          have hbw := hbw1.out.trans (hbr.mono hbw1.out.size)
          have hzr := hbr.size
          by_cases hjl : j < m.data.length
          · obtain ⟨b, o, rfl, hbB, hcell⟩ := hr' (by omega)
            have c0 := hcell j hjl
            rw [← hbw.cell (p := ⟨b, _, none⟩) hbB] at c0
            have hbs := Nat.lt_of_lt_of_le hbB hbw.size
            have HG : Hid ((m.data.take (j + 1)).flatMap wordB = (m.data.take j).flatMap wordB ++ wordB m.data[j]) := by
              show _ = _
              rw [List.take_succ_eq_append_getElem hjl, List.flatMap_append]
              simp
            have hin : oddW m.data[j] = false := by
              rw [List.any_eq_false] at hod
              simpa using hod _ (List.getElem_mem hjl)
            obtain ⟨x, hx⟩ : ∃ x, x = m.data[j] := ⟨_, rfl⟩
            rw [← hx] at c0 HG hin
            unfold oddW at hin
            simp at hin
            obtain ⟨q, rfl⟩ : ∃ q : Nat, x = (q : Int) := ⟨x.toNat, by omega⟩
            clear hx hcell hr' hr
            go_wp2
            refine mreg16 w1 A1 c1 R n w.heap.size b o j m.data.length c' q wr _ hbr hown (by omega) (by omega) hjl h64 (fun W hW => ?_) (fun W hW => ?_) ?_
            · rw [(hbw1.out.trans (hW.mono hbw1.out.size)).cell (p := ⟨b, _, none⟩) hbB, ← hbw.cell (p := ⟨b, _, none⟩) hbB]; exact c0
            · have z3 := (HBX.out.below hW (by omega)).cell 2
              simp at z3
              exact z3
            intro listed W y5 y77 y78 y79 y80 y81 y82 y83 y84 y85 y86 y87 y88 y89 y90 y91 y92 y93 hall hJ
            obtain ⟨V, rfl, hV⟩ := hJ.f17 (hall 17 (by decide))
            have hw := hJ.w.1
            obtain ⟨A2, c2, rfl⟩ := own_slice hV
            rw [bc_two (by omega), ← bc_app] at hV
            clear hJ
            go_wp2_with fail
            go_roundw
            case rel => exact ⟨j + 1, by omega, by go_num, _, _, A2, c2, rfl, by omega, by omega, hw, hV, by show _ = _; rw [HR.out, HG.out, List.append_assoc]; rfl⟩
            case measure => simp [intOf]; omega
          · have hjj : j = m.data.length := by omega
            subst hjj
            have HB : Hid (R = bodyB m) := by
              show _ = _
              rw [HR.out, HP.out, List.take_length, List.take_length]
              rfl
            have HE : Hid (encR m = (ba (encB m), 0)) := by
              show _ = _
              rw [encR, if_pos HC.out]
            clear hr hr'
            go_wp2
            refine mreg17 wr w1.heap.size A1 c1 R n _ hown (by omega) (by omega) (by have := hown.1; simpa [bc, ba, ByteArray.size] using this) ?_
            intro listed W y2 y3 y94 y95 y96 y97 y98 y99 hall hJ
            obtain rfl := hJ.f6 (hall 6 (by decide))
            obtain rfl := hJ.f7 (hall 7 (by decide))
            have hw := hJ.w.1
            clear hJ
            go_wp2_with fail
            refine bodyPost_ret (v := .tuple #[.string (ba (sealL R ++ R)), .int .i64 0]) (by simp [results, Tryd.results25, go_sem]) rfl ?_
            rw [HE.out]
            exact ⟨by rw [encB, HB.out], hbw.trans (hw.mono hbw.size)⟩
  · have HC := Lib.hid h0
    have h1 : ((modCheck m) == 0) = false := by rw [beq_eq_false_iff_ne]; exact h0
    have HE : Hid (encR m = (⟨#[]⟩, modCheck m)) := by show _ = _; rw [encR, if_neg h0]
    go_enter Tryd.func25, Tryd.ntmps25
    go_wp2_with fail
    refine (CK.out _ (ha _)).mono ?_
    rintro e w1 ⟨rfl, hb1⟩
    go_wp2
    refine bodyPost_ret (v := .tuple #[.string ⟨#[]⟩, .int .i64 (modCheck m)]) (by simp [results, Tryd.results25, go_sem]) rfl ?_
    exact ⟨by rw [HE.out], (ha _).trans (hb1.mono (by simp))⟩
end Go.Proofs.YtdjamdbamkhblaaDoor
