/- The walk of the law TopQuiet: the scripts are made. Condition: the listed table. By an AI agent (xtq2.py). -/
import Derived.Test.YtdjamdbamkhblacDoorTopQA
import Derived.Test.YtdjamdbamkhblacDoorTopQG
import Derived.Test.YtdjamdbamkhblacDoorActDelF
import Derived.Test.YtdjamdbamkhblacDoorG38
import Derived.Test.YtdjamdbamkhblacDoorG37
import Derived.Test.YtdjamdbamkhblacDoorG39
import Derived.Deep.RegionWith
import Derived.Laws.EntriesVeiled
import Derived.Deep.DeepCutAuto
import Derived.Deep.CutBlock
import Derived.BigQuiet
namespace Go.Proofs.YtdjamdbamkhblacDoor
open Go.RowKit
set_option linter.unusedVariables false
set_option linter.unusedSimpArgs false
attribute [local go_sem] After.cell
/-- A slice of acts that is cloned, and then struck from. -/
theorem clone_del {w0 : World} (F : FuncId) (cp : Array Value) (p : Akt → Bool) (A : Option Addr) (c : Nat) (l : List Akt) (w : World) (hr : RdA w w.heap.size A l) (hnil : A = none → l.length = 0 ∧ c = 0) (hl : l.length ≤ 1000) :
    Calls Tryd.prog 35 #[.slice A l.length c] w fun e w1 => ∃ A' c', e = .returned (.slice A' l.length c') ∧ w1.ownsRow w.heap.size 26 6 (.slice A' l.length c') l.length (Azr l) ∧ Below w.heap.size w w1 :=
  (Clone_akt A l.length c (Azr l) w hr.rd hnil (Mzb l) (by omega)).mono fun e w1 ⟨A', c', he, ho, hb⟩ => ⟨A', c', he, ho, hb⟩
theorem RowA.nil_of {w W : World} {A : Option Addr} {c : Nat} {l : List Akt} (h : RowA w W A c l) : A = none → l.length = 0 ∧ c = 0 := fun e => by
  subst e
  rcases h.own.2 with ⟨h1, h2⟩ | ⟨_, _, _, h1, _⟩
  · injection h1 with _ a b
    exact ⟨a, b⟩
  · cases h1
/-- What TopQuiet has made when its runs begin. -/
structure TqI (w W : World) (hd pl lo : Option Addr × Nat) (m n l : List Ins) (r : Ins) : Prop where
  be : Below w.heap.size w W
  hd : RdA W W.heap.size hd.1 (headL m n r)
  pl : RdA W W.heap.size pl.1 (plainA l)
  lo : RdA W W.heap.size lo.1 (loudA l)
theorem TqI.below {w W W' : World} {hd pl lo : Option Addr × Nat} {m n l : List Ins} {r : Ins} (h : TqI w W hd pl lo m n l r) (hb : Below W.heap.size W W') : TqI w W' hd pl lo m n l r :=
  ⟨h.be.trans (hb.mono h.be.size), h.hd.aft hb, h.pl.aft hb, h.lo.aft hb⟩
theorem flatS_two (x y : Option Addr × Nat × List Akt) : Czi [x, y] = x.2.2 ++ y.2.2 := by simp [Czi]
/-- Two slices, laid in a block, joined. -/
theorem concat_two {W : World} {x y : Option Addr × Nat} {l1 l2 : List Akt} {n1 n2 : Nat} (h1 : RdA W W.heap.size x.1 l1) (h2 : RdA W W.heap.size y.1 l2) (hn1 : n1 = l1.length) (hn2 : n2 = l2.length) (hl : (l1 ++ l2).length ≤ 1000) (t : TypeId) :
    Calls Tryd.prog 32 #[.slice (some ⟨W.heap.size, 0, none⟩) 2 2] (W.alloc (.cells #[.slice x.1 n1 x.2, .slice y.1 n2 y.2] t)) fun e w' => ∃ A c, e = .returned (.slice A (l1 ++ l2).length c) ∧ RdA w' w'.heap.size A (l1 ++ l2) ∧ Below W.heap.size W w' := by
  subst hn1
  subst hn2
  have hS := Sls.two (t := t) h1 h2
  have hf := flatS_two (x.1, x.2, l1) (y.1, y.2, l2)
  have h := Rzn W.heap.size 2 [(x.1, x.2, l1), (y.1, y.2, l2)] _ hS (show 2 ≤ 100 by decide) (by rw [hf]; show (l1 ++ l2).length ≤ _; omega)
  have hba := (Below.refl W.heap.size W).alloc (Nat.le_refl _) (.cells #[.slice x.1 l1.length x.2, .slice y.1 l2.length y.2] t)
  refine h.mono fun e w' => ?_
  rw [hf]
  rintro ⟨A, c, he, ho, hb⟩
  exact ⟨A, c, he, RdA.of (Rd.of_own ho), hba.trans (hb.mono hba.size)⟩
/-- A kernel's struct in a block, and its rows. -/
structure KQ (W : World) (q : Nat) (a : KA) (k : Krn) : Prop where
  bk : Blk W q 36 (a.cells k)
  kn : KrnAt W W.heap.size a k
theorem KQ.below {W W' : World} {q : Nat} {a : KA} {k : Krn} (h : KQ W q a k) (hb : Below W.heap.size W W') : KQ W' q a k := ⟨h.bk.below hb h.bk.lt, (h.kn.below hb).more hb.size⟩
theorem KQ.new {W : World} {a : KA} {k : Krn} (h : KrnAt W W.heap.size a k) : KQ (W.alloc (.cells (a.cells k) 36)) W.heap.size a k := by
  have hb := Azc W (.cells (a.cells k) 36)
  exact ⟨Blk.new _ _ _, (h.below hb).more hb.size⟩
theorem KQ.at_ {W : World} {q : Nat} {a : KA} {k : Krn} (h : KQ W q a k) (ok : KOk k) : q < W.heap.size ∧ W.cell? ⟨q, 1, none⟩ = some (.slice a.a1 1024 a.c1) ∧ W.cell? ⟨q, 2, none⟩ = some (.slice a.a2 8 a.c2) ∧ W.cell? ⟨q, 3, none⟩ = some (.slice a.a3 6 a.c3) ∧ W.cell? ⟨q, 4, none⟩ = some (.slice a.a4 4 a.c4) := by
  have c1 := h.bk.cell 1
  have c2 := h.bk.cell 2
  have c3 := h.bk.cell 3
  have c4 := h.bk.cell 4
  unfold KA.cells at c1 c2 c3 c4
  rw [ok.l1, ok.l2, ok.l3, ok.l4] at c1 c2 c3 c4
  exact ⟨h.bk.lt, c1, c2, c3, c4⟩
/-- The words from a place on. -/
theorem rdN_drop {W : World} {B b o : Nat} {l : List Int} (h : RdN W B (some ⟨b, o, none⟩) l) (i : Nat) : RdN W B (some ⟨b, o + i, none⟩) (l.drop i) := fun hn => by
  rw [List.length_drop] at hn
  obtain ⟨b', o', e, hb, hc⟩ := h (by omega)
  cases e
  refine ⟨b, o + i, rfl, hb, fun k hk => ?_⟩
  rw [List.getElem_drop, Nat.add_assoc]
  exact hc (i + k) (by rw [List.length_drop] at hk; omega)
/-- What the clones and the loop of TopQuiet hold. -/
structure TqC (w W : World) (AH AA AV : Option Addr) (b10 b14 cA : Nat) (m n : List Ins) (r : Ins) (zs wl : List Akt) : Prop where
  be : Below w.heap.size w W
  hd : RdA W W.heap.size AH (headL m n r)
  za : RdA W W.heap.size AA zs
  wa : RdA W W.heap.size AV wl
  x10 : Blk W b10 27 #[.slice AA zs.length cA]
  x14 : Blk W b14 73 #[.func (.func 33) #[] #[]]
theorem TqC.below {w W W' : World} {AH AA AV : Option Addr} {b10 b14 cA : Nat} {m n : List Ins} {r : Ins} {zs wl : List Akt} (h : TqC w W AH AA AV b10 b14 cA m n r zs wl) (hb : Below W.heap.size W W') : TqC w W' AH AA AV b10 b14 cA m n r zs wl :=
  ⟨h.be.trans (hb.mono h.be.size), h.hd.aft hb, h.za.aft hb, h.wa.aft hb, h.x10.below hb h.x10.lt, h.x14.below hb h.x14.lt⟩
set_option maxRecDepth 100000 in
set_option maxHeartbeats 8000000 in
theorem TopQuiet_any (HRC : RunC 156) (A0 A1 A2 : Option Addr) (c0 c1 c2 : Nat) (l m n : List Ins) (r : Ins) (w : World) (hr0 : RdI w w.heap.size A0 l) (hwf0 : ∀ i ∈ l, i.wf) (hl0 : l.length ≤ maxLen) (hr1 : RdI w w.heap.size A1 m) (hwf1 : ∀ i ∈ m, i.wf) (hl1 : m.length ≤ maxLen) (hr2 : RdI w w.heap.size A2 n) (hwf2 : ∀ i ∈ n, i.wf) (hl2 : n.length ≤ maxLen) (hrw : r.wf) (ht : Tab w) :
    Calls Tryd.prog 11 #[.slice A0 l.length c0, .slice A1 m.length c1, .slice A2 n.length c2, .agg #[.int .i64 r.op, .int .i64 r.a, .int .i64 r.b, .int .i64 r.c]] w fun e w' => e = .returned (.bool true) ∧ Below w.heap.size w w' := by
  have hb0 := Azc w (.cells #[.int .i64 r.op, .int .i64 r.a, .int .i64 r.b, .int .i64 r.c] 23)
  have HX := Lib.hid (Blk.new w 23 #[.int .i64 r.op, .int .i64 r.a, .int .i64 r.b, .int .i64 r.c])
  have HB := Lib.hid hb0
  have HT := Lib.hid ht
  have HI1 : Hid (∀ W : World, Below w.heap.size w W → Calls Tryd.prog 30 #[.slice A1 m.length c1, .agg #[.int .i64 r.op, .int .i64 r.a, .int .i64 r.b, .int .i64 r.c], .string ⟨#[111, 110, 101]⟩, .int .i64 0] W fun e w' => ∃ A' c', e = .returned (.slice A' 2 c') ∧ RowA W w' A' c' (insL m r oneS 0)) := fun W hb =>
    Ozd A1 c1 m r oneS 0 W ((hr1.below hb).more hb.size) hwf1 hl1 hrw (ht.below hb) (by decide)
  have HI2 : Hid (∀ W : World, Below w.heap.size w W → Calls Tryd.prog 30 #[.slice A2 n.length c2, .agg #[.int .i64 r.op, .int .i64 r.a, .int .i64 r.b, .int .i64 r.c], .string ⟨#[116, 119, 111]⟩, .int .i64 1] W fun e w' => ∃ A' c', e = .returned (.slice A' 2 c') ∧ RowA W w' A' c' (insL n r twoS 1)) := fun W hb =>
    Ozd A2 c2 n r twoS 1 W ((hr2.below hb).more hb.size) hwf2 hl2 hrw (ht.below hb) (by decide)
  have HA : Hid (∀ W : World, Below w.heap.size w W → Calls Tryd.prog 15 #[.slice A0 l.length c0, .int .i64 60] W fun e w' => ∃ A' c', e = .returned (.slice A' (Jz0 l 60).length c') ∧ RowA W w' A' c' (Jz0 l 60)) := fun W hb =>
    Szp A0 c0 60 l W ((hr0.below hb).more hb.size) hwf0 hl0 (by omega)
  have HD : Hid (∀ (i : Nat) (hi : i < l.length) (W : World), Calls Tryd.prog 12 #[.agg #[.int .i64 l[i].op, .int .i64 l[i].a, .int .i64 l[i].b, .int .i64 l[i].c]] W fun e w' => e = .returned (.string (Fzu l[i].a l[i].b)) ∧ Below W.heap.size W w') := fun i hi W =>
    Mz8 l[i] (hwf0 _ (List.getElem_mem hi)) W
  have HR0 := Lib.hid hr0
  clear hb0 hr0 hwf0 hl0 hr1 hwf1 hl1 hr2 hwf2 hl2 hrw ht
  have x0 := HX.out.cell 0
  have x1 := HX.out.cell 1
  have x2 := HX.out.cell 2
  have x3 := HX.out.cell 3
  have xl := HX.out.lt
  go_enter Tryd.func11, Tryd.ntmps11
  go_upto_region 1 with fail
  refine tqReg _ w.heap.size c1 c2 A1 A2 m n r _ _ (Czr _) xl x0 x1 x2 x3 (fun W hb => HI1.out W (HB.out.trans (hb.mono HB.out.size))) (fun W hb => HI2.out W (HB.out.trans (hb.mono HB.out.size))) ?_
  intro listed W y9 y24 y25 y26 y27 y28 y29 y30 y31 y32 y33 hall hJ
  obtain ⟨⟨AH, cH⟩, rfl, hH⟩ := hJ.f10 (hall 10 (by decide))
  have HBW := Lib.hid (HB.out.trans (hJ.w.mono HB.out.size))
  have HH := Lib.hid hH
  clear hJ hall hH HI1 HI2 x0 x1 x2 x3 xl HX HB
  go_wp2_with fail
  refine (HA.out _ HBW.out).mono ?_
  rintro e w1 ⟨AA, cA, rfl, hA⟩
  obtain ⟨zs, hzs⟩ : ∃ zs, zs = Jz0 l 60 := ⟨_, rfl⟩
  have hzl : zs.length ≤ 60 := by rw [hzs]; exact Qz5 l 60
  have hzl2 : zs.length ≤ l.length := by rw [hzs]; unfold Jz0; simp; omega
  rw [← hzs] at hA ⊢
  have HZS := Lib.hid hzs
  have HB1 := Lib.hid (HBW.out.trans (hA.be.mono HBW.out.size))
  have HH1 := Lib.hid (HH.out.aft hA.be)
  have HAR := Lib.hid (RdA.of (Rd.of_own hA.own))
  have HAN := Lib.hid hA.nil_of
  have HZL := Lib.hid (And.intro hzl hzl2)
  clear hzs HA HBW HH hA
  have hB10 := Azc w1 (.cells #[.slice AA zs.length cA] 27)
  have hX10 := Blk.new w1 27 #[.slice AA zs.length cA]
  have hB2 := HB1.out.trans (hB10.mono HB1.out.size)
  have hH2 := HH1.out.aft hB10
  have hA2 := HAR.out.aft hB10
  clear HB1 HH1 HAR hB10
  go_upto_region 3 with fail
  obtain ⟨b10, hb10⟩ : ∃ b, b = w1.heap.size := ⟨_, rfl⟩
  rw [← hb10] at hX10 ⊢
  clear hb10
  refine (show ∀ W : World, Below w.heap.size w W → RdA W W.heap.size AH (headL m n r) → RdA W W.heap.size AA zs → Blk W b10 27 #[.slice AA zs.length cA] → Code.wp _ _ _ _ W from ?_) _ hB2 hH2 hA2 hX10
  clear hB2 hH2 hA2 hX10
  intro W2 hB hH hA hX
  have HB := Lib.hid hB
  have HH := Lib.hid hH
  have HA := Lib.hid hA
  have HX := Lib.hid hX
  have t0 := hX.cell 0
  have tl := hX.lt
  simp at t0
  clear hB hH hA hX
  go_wp2_with fail
  go_loopw [11, 38] (fun V i wr => Cnt zs.length i fun j => ∃ (A : Option Addr) (c : Nat), V = .slice A (Lzy l (zs.take j) 0).length c ∧ RowA W2 wr A c (Lzy l (zs.take j) 0)) (fun _ i _ => zs.length - (intOf i).toNat)
  case atStart => exact ⟨0, Nat.zero_le _, rfl, none, 0, rfl, World.ownsRow_nil _ _ _ _, Below.refl _ _⟩
  case round =>
    clear t0 tl
    obtain ⟨j, hj, rfl, AV, cV, rfl, hV⟩ := hrel
    by_cases hlt : j < zs.length
    · obtain ⟨b, o, rfl, hbB, hcell⟩ := HA.out (by omega)
      obtain ⟨c0', c1', c2', c3', c4', c5'⟩ := hcell j hlt
      have hbr := hV.be
      rw [← hbr.cell (p := ⟨b, _, none⟩) hbB] at c0' c1' c2' c3' c4' c5'
      have hbw : b < wr.heap.size := Nat.lt_of_lt_of_le hbB hbr.size
      have hsn := withL_snoc l (zs.take j) zs[j] 0
      rw [← List.take_succ_eq_append_getElem hlt, Nat.zero_add, List.length_take, Nat.min_eq_left (by omega)] at hsn
      have hwl := Izr l (zs.take j) 0
      rw [List.length_take, Nat.min_eq_left (by omega)] at hwl
      obtain ⟨x, hx⟩ : ∃ x, x = zs[j] := ⟨_, rfl⟩
      rw [← hx] at c0' c1' c2' c3' c4' c5' hsn
      obtain ⟨L, hL⟩ : ∃ L, L = Lzy l (zs.take j) 0 := ⟨_, rfl⟩
      rw [← hL] at hV hsn hwl
      rw [← hL]
      have HSN := Lib.hid hsn
      have HWL := Lib.hid hwl
      have HV := Lib.hid hV
      have hli : j < l.length := by have := HZL.out.2; omega
      have hpi : Lzn l j = if j % 4 = 1 then [⟨8, 0, 0, 0, noS, Fzu l[j].a l[j].b⟩] else if j % 4 = 3 then [⟨7, 0, 0, (1 : Nat), noS, noS⟩] else [] := by
        unfold Lzn
        rw [Az8 hli]
      have HPI := Lib.hid hpi
      clear hcell hx hL hsn hwl hV hbr hpi
      have hXa := Blk.new wr 26 #[.int .i64 x.kind, .int .i64 x.p, .int .i64 x.n, .int .i64 x.m, .string x.name, .string x.data]
      have hba := Azc wr (.cells #[.int .i64 x.kind, .int .i64 x.p, .int .i64 x.n, .int .i64 x.m, .string x.name, .string x.data] 26)
      have hV1 := HV.out.below hba
      clear HV
      go_upto_region 7 with fail
      refine (show ∀ W : World, RowA W2 W AV cV L → Blk W wr.heap.size 26 #[.int .i64 x.kind, .int .i64 x.p, .int .i64 x.n, .int .i64 x.m, .string x.name, .string x.data] → Code.wp _ _ _ _ W from ?_) _ hV1 hXa
      clear hV1 hXa hba c0' c1' c2' c3' c4' c5' hbw
      intro W3 hV hXa
      have HV := Lib.hid hV
      have y0 := hXa.cell 0
      have y1 := hXa.cell 1
      have y2 := hXa.cell 2
      have y3 := hXa.cell 3
      have y4 := hXa.cell 4
      have y5 := hXa.cell 5
      have yl := hXa.lt
      simp at y0 y1 y2 y3 y4 y5
      clear hV hXa
      obtain ⟨b0, o0, rfl, hb0', hcell0⟩ := HR0.out (by omega)
      obtain ⟨d0, d1, d2, d3⟩ := hcell0 j hli
      have HD0 := Lib.hid d0
      have HD1 := Lib.hid d1
      have HD2 := Lib.hid d2
      have HD3 := Lib.hid d3
      have HB0 := Lib.hid hb0'
      have HDT := Lib.hid (HD.out j hli)
      obtain ⟨u, hu⟩ : ∃ u, u = l[j] := ⟨_, rfl⟩
      rw [← hu] at HPI HDT HD0 HD1 HD2 HD3
      clear hcell0 d0 d1 d2 d3 hb0' hu
      rcases (show j % 4 = 1 ∨ j % 4 = 3 ∨ (¬ j % 4 = 1 ∧ ¬ j % 4 = 3) by omega) with hm | hm | hm
      · have hq : Int.tmod (j : Int) 4 = 1 := by rw [Int.tmod_eq_emod_of_nonneg (by omega)]; omega
        have hjl : (j : Int) < (l.length : Int) := by omega
        rw [if_pos hm] at HPI
        go_wp2_with (at_builtin; (refine Szo [x] HV.out rfl (.tmp 43) (.tmp 45) rfl rfl rfl rfl rfl (by have := HWL.out; have := HZL.out.1; simp; omega) ?_; intro A3 c3 w3 hV3; obtain ⟨L', hL'⟩ : ∃ L', L' = L ++ [x] := ⟨_, rfl⟩; rw [← hL'] at hV3 ⊢; have HL' := Lib.hid hL'; have HV3 := Lib.hid hV3; have HB3 := Lib.hid (HB.out.trans (hV3.be.mono HB.out.size)); have d0 := (HB3.out.cell (p := ⟨b0, _, none⟩) HB0.out).trans HD0.out; have d1 := (HB3.out.cell (p := ⟨b0, _, none⟩) HB0.out).trans HD1.out; have d2 := (HB3.out.cell (p := ⟨b0, _, none⟩) HB0.out).trans HD2.out; have d3 := (HB3.out.cell (p := ⟨b0, _, none⟩) HB0.out).trans HD3.out; clear hV3 hL' HV y0 y1 y2 y3 y4 y5 yl))
        refine (HDT.out _).mono ?_
        rintro e w4 ⟨rfl, hb4⟩
        have HV4 := Lib.hid (HV3.out.below hb4)
        obtain ⟨s, hs⟩ : ∃ s, s = Fzu u.a u.b := ⟨_, rfl⟩
        rw [← hs] at HPI ⊢
        clear hb4 hs HV3 HDT
        go_wp2_with (at_builtin; (refine Szo [⟨8, 0, 0, 0, noS, s⟩] HV4.out rfl (.tmp 51) (.tmp 58) rfl rfl rfl rfl rfl (by have := HWL.out; have := HZL.out.1; rw [HL'.out]; simp; omega) ?_; intro A4 c4 w5 hV5; have HV5 := Lib.hid hV5; clear hV5 HV4))
        exact ⟨⟨j + 1, hlt, by go_num, A4, c4, by rw [HSN.out, HPI.out, HL'.out]; simp, by rw [HSN.out, HPI.out]; have := HV5.out; rw [HL'.out] at this; simpa using this⟩, by simp [intOf]; omega⟩
      · have hq : Int.tmod (j : Int) 4 = 3 := by rw [Int.tmod_eq_emod_of_nonneg (by omega)]; omega
        rw [if_neg (by omega), if_pos hm] at HPI
        go_wp2_with (first | (at_builtin; (refine Szo [x] HV.out rfl (.tmp 43) (.tmp 45) rfl rfl rfl rfl rfl (by have := HWL.out; have := HZL.out.1; simp; omega) ?_; intro A3 c3 w3 hV3; obtain ⟨L', hL'⟩ : ∃ L', L' = L ++ [x] := ⟨_, rfl⟩; rw [← hL'] at hV3 ⊢; have HL' := Lib.hid hL'; have HV3 := Lib.hid hV3; clear hV3 hL' HV y0 y1 y2 y3 y4 y5 yl)) | (at_builtin; (refine Szo [⟨7, 0, 0, 1, noS, noS⟩] HV3.out rfl (.tmp 62) (.tmp 64) rfl rfl rfl rfl rfl (by have := HWL.out; have := HZL.out.1; rw [HL'.out]; simp; omega) ?_; intro A4 c4 w5 hV5; have HV5 := Lib.hid hV5; clear hV5 HV3)))
        exact ⟨⟨j + 1, hlt, by go_num, A4, c4, by rw [HSN.out, HPI.out, HL'.out]; simp, by rw [HSN.out, HPI.out]; have := HV5.out; rw [HL'.out] at this; simpa using this⟩, by simp [intOf]; omega⟩
      · have hq1 : ¬ Int.tmod (j : Int) 4 = 1 := by rw [Int.tmod_eq_emod_of_nonneg (by omega)]; omega
        have hq3 : ¬ Int.tmod (j : Int) 4 = 3 := by rw [Int.tmod_eq_emod_of_nonneg (by omega)]; omega
        rw [if_neg hm.1, if_neg hm.2] at HPI
        go_wp2_with (at_builtin; (refine Szo [x] HV.out rfl (.tmp 43) (.tmp 45) rfl rfl rfl rfl rfl (by have := HWL.out; have := HZL.out.1; simp; omega) ?_; intro A3 c3 w3 hV3; obtain ⟨L', hL'⟩ : ∃ L', L' = L ++ [x] := ⟨_, rfl⟩; rw [← hL'] at hV3 ⊢; have HL' := Lib.hid hL'; have HV3 := Lib.hid hV3; clear hV3 hL' HV y0 y1 y2 y3 y4 y5 yl))
        exact ⟨⟨j + 1, hlt, by go_num, A3, c3, by rw [HSN.out, HPI.out, HL'.out], by rw [HSN.out, HPI.out]; have := HV3.out; rw [HL'.out] at this; exact this⟩, by simp [intOf]; omega⟩
    · obtain rfl : j = zs.length := by omega
      rw [List.take_length] at hV ⊢
      obtain ⟨wl, hwl⟩ : ∃ wl, wl = Lzy l zs 0 := ⟨_, rfl⟩
      rw [← hwl] at hV ⊢
      have hwl90 : wl.length ≤ 90 := by rw [hwl, Izr]; have := HZL.out.1; omega
      have HWL := Lib.hid hwl90
      have HWE := Lib.hid hwl
      have HVN := Lib.hid hV.nil_of
      have hb14 := Azc wr (.cells #[.func (.func 33) #[] #[]] 73)
      have hx14 := Blk.new wr 73 #[.func (.func 33) #[] #[]]
      have hC : TqC w (wr.alloc (.cells #[.func (.func 33) #[] #[]] 73)) AH AA AV b10 wr.heap.size cA m n r zs wl :=
        ⟨(HB.out.trans (hV.be.mono HB.out.size)).trans (hb14.mono (Nat.le_trans HB.out.size hV.be.size)), (HH.out.aft hV.be).aft hb14, (HA.out.aft hV.be).aft hb14, (RdA.of (Rd.of_own hV.own)).aft hb14, (HX.out.below hV.be HX.out.lt).alloc _, hx14⟩
      clear hV hb14 hx14 hwl hwl90 HB HH HA HX hlt hj HD HR0
      go_upto_region 15 with fail
      obtain ⟨b14, hb14⟩ : ∃ b, b = wr.heap.size := ⟨_, rfl⟩
      rw [← hb14] at hC ⊢
      clear hb14
      refine (show ∀ W : World, TqC w W AH AA AV b10 b14 cA m n r zs wl → Code.wp _ _ _ _ W from ?_) _ hC
      clear hC
      intro W4 hC
      have HC := Lib.hid hC
      have t0 := hC.x10.cell 0
      have t0l := hC.x10.lt
      have t1 := hC.x14.cell 0
      have t1l := hC.x14.lt
      simp at t0 t1
      clear hC
      have hz0 : zs.length ≤ 60 := HZL.out.1
      go_cut [15] (fun u wx => ∃ AP cP, u = .slice AP (plainA l).length cP ∧ RdA wx wx.heap.size AP (plainA l) ∧ Below W4.heap.size W4 wx)
      case first =>
        go_region_with (first | (go_at_call 35; refine (Clone_akt AA zs.length cA (Azr zs) _ (HC.out.za.aft (Czr _)).rd HAN.out (Mzb zs) (by omega)).mono ?_; rintro e w5 ⟨A5, c5, rfl, ho5, hb5⟩; have HB5 := Lib.hid ((Czr W4).trans hb5); have HO5 := Lib.hid ho5; have t1 := (HC.out.x14.below HB5.out HC.out.x14.lt).cell 0; have t1l := (HC.out.x14.below HB5.out HC.out.x14.lt).lt; simp at t1; clear ho5 hb5 t0 t0l) | (go_at_call 34; refine (DeleteFunc_akt 33 #[] Lz4 A5 c5 _ zs _ HO5.out (by omega) HB5.out.size keep_enter fun x _ w1 _ => Keep1_any x w1).mono ?_; rintro e w6 ⟨c6, rfl, hr6, hb6⟩; have HR6 := Lib.hid hr6; have HB6 := Lib.hid (HB5.out.trans hb6); clear hr6 hb6 t1 t1l))
        all_goals
          go_wp2_with fail
          go_meet
          refine ⟨A5, c6, ?_, ?_, HB6.out⟩
          · rw [show plainA l = zs.filter fun x => !Lz4 x by unfold plainA; rw [← HZS.out]]
          · rw [show plainA l = zs.filter fun x => !Lz4 x by unfold plainA; rw [← HZS.out]]; exact HR6.out
      case rest =>
        obtain ⟨AP, cP, rfl, hP, hbP⟩ := hcut
        have HC1 := Lib.hid (HC.out.below hbP)
        have HP := Lib.hid hP
        clear hP hbP t0 t0l t1 t1l HC
        go_wp2_with fail
        refine (Clone_akt AV wl.length cV (Azr wl) _ HC1.out.wa.rd HVN.out (Mzb wl) (by have := HWL.out; omega)).mono ?_
        rintro e w5 ⟨A5, c5, rfl, ho5, hb5⟩
        have HB5 := Lib.hid hb5
        have HO5 := Lib.hid ho5
        clear ho5 hb5
        go_wp2_with fail
        refine (DeleteFunc_akt 36 #[.pointer (some ⟨b14, 0, none⟩), .pointer (some ⟨b10, 0, none⟩)] (fun a => Lz4 a && decide (a ∈ zs)) A5 c5 _ wl w5 HO5.out (by have := HWL.out; omega) HB5.out.size loud_enter fun x _ w1 hb => ?_).mono ?_
        · have hC := HC1.out.below (HB5.out.trans hb)
          exact Loud_any x b14 b10 AA cA zs w1 hC.x14.lt hC.x10.lt (hC.x14.cell 0) (hC.x10.cell 0) hC.za (by unfold maxLen; omega)
        rintro e w6 ⟨c6, rfl, hr6, hb6⟩
        have hb56 := HB5.out.trans hb6
        have hlo : (wl.filter fun a => !(Lz4 a && decide (a ∈ zs))) = loudA l := by
          unfold loudA
          rw [HWE.out, HZS.out]
        have hlo' : (wl.filter fun x => !(fun a => Lz4 a && decide (a ∈ zs)) x) = loudA l := hlo
        first | rw [hlo] at hr6 ⊢ | rw [hlo'] at hr6 ⊢
        clear hlo'
        have HI : Hid (TqI w w6 (AH, cH) (AP, cP) (A5, c6) m n l r) := ⟨HC1.out.be.trans (hb56.mono HC1.out.be.size), HC1.out.hd.aft hb56, HP.out.aft hb56, hr6⟩
        clear hlo hr6 hb56 hb6 HC1 HP HB5 HO5 HAN HVN HWL HWE HZS HZL hz0
        obtain ⟨hlk, okk, okh, hle⟩ := quiet_runs l m n r
        have hs1 : Rzo (headL m n r ++ plainA l) := fun a ha => (List.mem_append.1 ha).elim (headL_small m n r a) (plainA_small l a)
        have hs2 : Rzo (headL m n r ++ loudA l) := fun a ha => (List.mem_append.1 ha).elim (headL_small m n r a) (loudA_small l a)
        have hp60 := plainA_le l
        have hl90 := loudA_le l
        have e1 : (headL m n r ++ plainA l).length = 5 + (plainA l).length := by rw [List.length_append]; rfl
        have e2 : (headL m n r ++ loudA l).length = 5 + (loudA l).length := by rw [List.length_append]; rfl
        have q1 := Hzl (headL m n r ++ plainA l) newK
        have q2 := Hzl (headL m n r ++ loudA l) newK
        obtain ⟨⟨kk, la⟩, hkl⟩ : ∃ z, z = runK newK (headL m n r ++ plainA l) := ⟨_, rfl⟩
        obtain ⟨⟨hh, lb⟩, hhl⟩ : ∃ z, z = runK newK (headL m n r ++ loudA l) := ⟨_, rfl⟩
        rw [← hkl] at hlk okk q1
        rw [← hhl] at hlk okh q2
        simp only at hlk okk okh q1 q2
        have HR1 : Hid (∀ (W : World) (A : Option Addr) (c : Nat), Below w.heap.size w W → RdA W W.heap.size A (headL m n r ++ plainA l) → Calls Tryd.prog 16 #[.slice A la.length c] W (RunKPost W (kk, la))) := fun W A c hb h => by
          have := Szq HRC A c (headL m n r ++ plainA l) W h (by omega) hs1 (HT.out.below hb)
          rw [← hkl, ← q1] at this
          exact this
        have HR2 : Hid (∀ (W : World) (A : Option Addr) (c : Nat), Below w.heap.size w W → RdA W W.heap.size A (headL m n r ++ loudA l) → Calls Tryd.prog 16 #[.slice A lb.length c] W (RunKPost W (hh, lb))) := fun W A c hb h => by
          have := Szq HRC A c (headL m n r ++ loudA l) W h (by omega) hs2 (HT.out.below hb)
          rw [← hhl, ← q2] at this
          exact this
        have HCC : Hid (∀ (W : World) (x y : Option Addr × Nat) (l2 : List Akt) (n2 n3 : Nat), RdA W W.heap.size x.1 (headL m n r) → RdA W W.heap.size y.1 l2 → n2 = l2.length → n3 = (headL m n r ++ l2).length → n3 ≤ 1000 → Calls Tryd.prog 32 #[.slice (some ⟨W.heap.size, 0, none⟩) 2 2] (W.alloc (.cells #[.slice x.1 5 x.2, .slice y.1 n2 y.2] 27)) fun e w' => ∃ A c, e = .returned (.slice A n3 c) ∧ RdA w' w'.heap.size A (headL m n r ++ l2) ∧ Below W.heap.size W w') := fun W x y l2 n2 n3 h1 h2 e2 e3 h3 => by
          subst e3
          exact concat_two h1 h2 rfl e2 h3 _
        obtain ⟨np, hnp⟩ : ∃ z, z = (plainA l).length := ⟨_, rfl⟩
        obtain ⟨nl, hnl⟩ : ∃ z, z = (loudA l).length := ⟨_, rfl⟩
        obtain ⟨na, hna⟩ : ∃ z, z = la.length := ⟨_, rfl⟩
        obtain ⟨nb, hnb⟩ : ∃ z, z = lb.length := ⟨_, rfl⟩
        rw [← hnp] at e1 hp60 hle ⊢
        rw [← hnl] at e2 hl90 hle ⊢
        rw [← hna] at HR1 q1
        rw [← hnb] at HR2 q2
        have HE1 := Lib.hid (And.intro hnp (show na = (headL m n r ++ plainA l).length ∧ na ≤ 1000 by omega))
        have HE2 := Lib.hid (And.intro hnl (show nb = (headL m n r ++ loudA l).length ∧ nb ≤ 1000 by omega))
        have hab : ¬ (nb : Int) < (na : Int) := by omega
        have HNA := Lib.hid hna
        have HNB := Lib.hid hnb
        have HLK := Lib.hid hlk
        have HK1 := Lib.hid okk
        have HK2 := Lib.hid okh
        clear hlk okk okh hle hs1 hs2 hp60 hl90 e1 e2 q1 q2 hkl hhl hnp hnl hna hnb HRC HT
        go_wp2_with fail
        refine (HCC.out w6 (AH, cH) (AP, cP) (plainA l) np na HI.out.hd HI.out.pl HE1.out.1 HE1.out.2.1 HE1.out.2.2).mono ?_
        rintro e w7 ⟨A7, c7, rfl, hr7, hb7⟩
        have HI7 := Lib.hid (HI.out.below hb7)
        have HR7 := Lib.hid hr7
        clear hr7 hb7 HI
        go_wp2_with fail
        refine (HR1.out w7 A7 c7 HI7.out.be HR7.out).mono ?_
        rintro e w8 ⟨AX, cX, ak, rfl, hO, hK, hcp, hb8⟩
        simp only at hO hK hcp
        have hkn := KQ.new (hK w8 (Stp.refl _))
        have hba := Azc w8 (.cells (ak.cells kk) 36)
        have hI8 := (HI7.out.below hb8).below hba
        have hw1 : 1024 ≤ ak.c1 := by have := hcp.w; rw [HK1.out.l1] at this; exact this
        rw [← HNA.out]
        clear hO hK hcp hb8 hba HI7 HR7 HR1 HE1
        unfold KA.cells
        go_upto_region 18 with fail
        obtain ⟨bk, hbk⟩ : ∃ b, b = w8.heap.size := ⟨_, rfl⟩
        rw [← hbk] at hkn ⊢
        clear hbk
        refine (show ∀ W : World, TqI w W (AH, cH) (AP, cP) (A5, c6) m n l r → KQ W bk ak kk → Code.wp _ _ _ _ W from ?_) _ hI8 hkn
        clear hI8 hkn
        intro W6 hI hkn
        have HI := Lib.hid hI
        have HKN := Lib.hid hkn
        clear hI hkn
        go_wp2_with fail
        refine (HCC.out W6 (AH, cH) (A5, c6) (loudA l) nl nb HI.out.hd HI.out.lo HE2.out.1 HE2.out.2.1 HE2.out.2.2).mono ?_
        rintro e w9 ⟨A9, c9, rfl, hr9, hb9⟩
        have HI9 := Lib.hid (HI.out.below hb9)
        have HKN9 := Lib.hid (HKN.out.below hb9)
        have HR9 := Lib.hid hr9
        clear hr9 hb9 HI HKN
        go_wp2_with fail
        refine (HR2.out w9 A9 c9 HI9.out.be HR9.out).mono ?_
        rintro e w10 ⟨AY, cY, ah, rfl, hO, hK, hcp, hb8⟩
        simp only at hO hK hcp
        have hhn := KQ.new (hK w10 (Stp.refl _))
        have hba := Azc w10 (.cells (ah.cells hh) 36)
        have hB8 := (HI9.out.be.trans (hb8.mono HI9.out.be.size)).trans (hba.mono (Nat.le_trans HI9.out.be.size hb8.size))
        have hkn8 := (HKN9.out.below hb8).below hba
        have hw2 : 1024 ≤ ah.c1 := by have := hcp.w; rw [HK2.out.l1] at this; exact this
        rw [← HNB.out]
        clear hO hK hcp hb8 hba HI9 HR9 HR2 HE2 HKN9 HCC
        unfold KA.cells
        go_upto_region 19 with fail
        obtain ⟨bh, hbh⟩ : ∃ b, b = w10.heap.size := ⟨_, rfl⟩
        rw [← hbh] at hhn ⊢
        clear hbh
        refine (show ∀ W : World, Below w.heap.size w W → KQ W bk ak kk → KQ W bh ah hh → Code.wp _ _ _ _ W from ?_) _ hB8 hkn8 hhn
        clear hB8 hkn8 hhn
        intro W7 hB hkn hhn
        obtain ⟨kl, k1, k2, k3, k4⟩ := hkn.at_ HK1.out
        obtain ⟨gl, g1, g2, g3, g4⟩ := hhn.at_ HK2.out
        have HB := Lib.hid hB
        have HKN := Lib.hid hkn
        have HHN := Lib.hid hhn
        clear hB hkn hhn
        go_wp2_with fail
        go_loopw [130] (fun i wr => Cnt 4 i fun _ => Below w.heap.size w wr ∧ KQ wr bk ak kk ∧ KQ wr bh ah hh) (fun i _ => 4 - (intOf i).toNat)
        case atStart => exact ⟨0, Nat.zero_le _, rfl, HB.out, HKN.out, HHN.out⟩
        case round =>
          clear kl k1 k2 k3 k4 gl g1 g2 g3 g4 HB HKN HHN
          obtain ⟨i, hi, rfl, hB, hkn, hhn⟩ := hrel
          obtain ⟨kl, k1, k2, k3, k4⟩ := hkn.at_ HK1.out
          obtain ⟨gl, g1, g2, g3, g4⟩ := hhn.at_ HK2.out
          have HB := Lib.hid hB
          have HKN := Lib.hid hkn
          have HHN := Lib.hid hhn
          by_cases hlt : i < 4
          · have l4 := HK1.out.l4
            have l4' := HK2.out.l4
            obtain ⟨b, o, e1, hb, hc⟩ := hkn.kn.procs (by omega)
            obtain ⟨b', o', e1', hb', hc'⟩ := hhn.kn.procs (by omega)
            obtain ⟨E1, d1, z0, z1, z2⟩ := hc i (by omega)
            obtain ⟨E2, d2, z0', z1', z2'⟩ := hc' i (by omega)
            have hpe : hh.procs[i]'(by omega) = kk.procs[i]'(by omega) := by simp only [HLK.out.procs]
            rw [hpe] at z0' z1' z2'
            rw [e1] at k4
            rw [e1'] at g4
            clear hc hc' e1 e1' hpe l4' hB hkn hhn
            generalize kk.procs[i] = p at *
            have hpl : p.ends.length ≤ maxLen := by have := z2.el; unfold maxLen; omega
            have HE : Hid (∀ X : After wr, Calls Tryd.prog 38 #[.slice E1 p.ends.length d1, .slice E2 p.ends.length d2] X.w' fun e w' => e = .returned (.bool true) ∧ Below X.w'.heap.size X.w' w') := fun X =>
              (Rzr E1 E2 d1 d2 p.ends X.w' ((z2.ends.below X.h).more X.h.size) ((z2'.ends.below X.h).more X.h.size) hpl).mono fun e w' ⟨he, n, hw⟩ => ⟨he, by rw [hw]; exact Below.drewN' (Below.refl _ _) n⟩
            clear z2 z2' hpl
            go_wp2
            refine Bzk (by kernel_rfl) (by kernel_rfl) ?_
            repeat (go_big_quiet_step ((rename_i X; exact Calls.calm (HE.out X))))
            refine wpQuiet_nil ?_
            rintro _ ⟨⟨w1, hb1⟩, rfl⟩
            have HB1 := Lib.hid (HB.out.trans (hb1.mono HB.out.size))
            have HKN1 := Lib.hid (HKN.out.below hb1)
            have HHN1 := Lib.hid (HHN.out.below hb1)
            clear hb1 HE kl k1 k2 k3 k4 gl g1 g2 g3 g4 z0 z1 z0' z1' hb hb'
            go_wp2
            exact ⟨⟨i + 1, hlt, by go_num, HB1.out, HKN1.out, HHN1.out⟩, by simp [intOf]; omega⟩
          · obtain ⟨b, o, e1, _, _⟩ := hkn.kn.mem (by rw [HK1.out.l1]; omega)
            obtain ⟨b', o', e1', _, _⟩ := hhn.kn.mem (by rw [HK2.out.l1]; omega)
            have E1 : Hid (∀ X : After wr, Calls Tryd.prog 19 #[.slice ak.a2 8 ak.c2, .slice ah.a2 8 ah.c2] X.w' fun e w' => e = .returned (.bool true) ∧ Below X.w'.heap.size X.w' w') := fun X => by
              have hn := (HHN.out.below X.h).kn.nodes
              rw [HLK.out.nodes] at hn
              have := Rzt ak.a2 ah.a2 ak.c2 ah.c2 kk.nodes X.w' (HKN.out.below X.h).kn.nodes hn (by rw [HK1.out.l2]; unfold maxLen; omega)
              rw [HK1.out.l2] at this
              exact this.mono fun e w' ⟨he, n, hw⟩ => ⟨he, by rw [hw]; exact Below.drewN' (Below.refl _ _) n⟩
            have E2 : Hid (∀ X : After wr, Calls Tryd.prog 20 #[.slice ak.a3 6 ak.c3, .slice ah.a3 6 ah.c3] X.w' fun e w' => e = .returned (.bool true) ∧ Below X.w'.heap.size X.w' w') := fun X => by
              have hn := (HHN.out.below X.h).kn.pipes
              rw [HLK.out.pipes] at hn
              have := Rzu ak.a3 ah.a3 ak.c3 ah.c3 kk.pipes X.w' (HKN.out.below X.h).kn.pipes hn (by rw [HK1.out.l3]; unfold maxLen; omega)
              rw [HK1.out.l3] at this
              exact this.mono fun e w' ⟨he, n, hw⟩ => ⟨he, by rw [hw]; exact Below.drewN' (Below.refl _ _) n⟩
            have E3 : Hid (∀ X : After wr, Calls Tryd.prog 21 #[.slice (some ⟨b, o + 64, none⟩) 960 (ak.c1 - 64), .slice (some ⟨b', o' + 64, none⟩) 960 (ah.c1 - 64)] X.w' fun e w' => e = .returned (.bool true) ∧ Below X.w'.heap.size X.w' w') := fun X => by
              have h1 := (HKN.out.below X.h).kn.mem
              have h2 := (HHN.out.below X.h).kn.mem
              rw [e1] at h1
              rw [e1'] at h2
              have h2 := rdN_drop h2 64
              rw [← HLK.out.tail HK1.out HK2.out] at h2
              have hl : (kk.mem.drop 64).length = 960 := by rw [List.length_drop, HK1.out.l1]
              have := Rzs (some ⟨b, o + 64, none⟩) (some ⟨b', o' + 64, none⟩) (ak.c1 - 64) (ah.c1 - 64) (kk.mem.drop 64) X.w' (rdN_drop h1 64) h2 (by rw [hl]; unfold maxLen; omega)
              rw [hl] at this
              exact this.mono fun e w' ⟨he, n, hw⟩ => ⟨he, by rw [hw]; exact Below.drewN' (Below.refl _ _) n⟩
            rw [e1] at k1
            rw [e1'] at g1
            have hc1 : ¬ ak.c1 = 0 := by omega
            have hc2 : ¬ ah.c1 = 0 := by omega
            clear hB hkn hhn e1 e1' HKN HHN HLK HK1 HK2
            go_wp2
            refine Bzk (by kernel_rfl) (by kernel_rfl) ?_
            repeat (go_big_quiet_step ((rename_i X; first | exact Calls.calm (E1.out X) | exact Calls.calm (E2.out X) | exact Calls.calm (E3.out X))))
            refine wpQuiet_nil ?_
            rintro _ ⟨⟨w1, hb1⟩, rfl⟩
            have HB1 := Lib.hid (HB.out.trans (hb1.mono HB.out.size))
            clear hb1 E1 E2 E3 kl k1 k2 k3 k4 gl g1 g2 g3 g4
            go_wp2
            go_ret
            exact ⟨rfl, HB1.out⟩
end Go.Proofs.YtdjamdbamkhblacDoor
