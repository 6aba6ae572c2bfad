/- The walk of top.TopTwice. Condition: the listed table. The walk of the machine's loads and stores: no condition. -/
import Derived.Test.YtdjamdbamkhblacDoorG30
import Derived.Test.YtdjamdbamkhblacDoorG31
import Derived.Test.YtdjamdbamkhblacDoorG29
import Derived.Test.YtdjamdbamkhblacDoorG18
import Derived.Deep.RegionLaw
namespace Go.Proofs.YtdjamdbamkhblacDoor
open Go.RowKit
set_option linter.unusedVariables false
set_option linter.unusedSimpArgs false
def devT : ByteArray := ⟨#[100, 101, 118]⟩
def RdZ (w : World) (B : Nat) (A : Option Addr) (l : List Ans) : Prop :=
 0 < l.length → ∃ b o, A = some ⟨b, o, none⟩ ∧ b < B ∧ ∀ k (h : k < l.length), w.cell? ⟨b, o + k * 3, none⟩ = some (.int .i64 l[k].code) ∧ w.cell? ⟨b, o + k * 3 + 1, none⟩ = some (.int .i64 l[k].n) ∧ w.cell? ⟨b, o + k * 3 + 2, none⟩ = some (.string l[k].data)
theorem RdZ.of {w : World} {B c : Nat} {A : Option Addr} {l : List Ans} (h : w.ownsRow B 41 3 (.slice A l.length c) l.length (ansCells l)) : RdZ w w.heap.size A l := fun hn => by
 have hr := Rd.of_own h
 obtain ⟨b, rfl, _, hlt⟩ := own_addr h hn
 obtain ⟨b', o, e, _, hc⟩ := hr.2 hn
 cases e
 refine ⟨b, 0, rfl, hlt, fun k hk => ?_⟩
 obtain ⟨x0, x1, x2⟩ := ansCells_at l k hk
 exact ⟨hc _ _ x0, hc _ _ x1, hc _ _ x2⟩
theorem RdZ.below {w w' : World} {A : Option Addr} {l : List Ans} (h : RdZ w w.heap.size A l) (hb : Below w.heap.size w w') : RdZ w' w'.heap.size A l := fun hn => by
 obtain ⟨b, o, rfl, hlt, hc⟩ := h hn
 exact ⟨b, o, rfl, Nat.lt_of_lt_of_le hlt hb.size, fun k hk => ⟨(hb.cell (p := ⟨b, _, none⟩) hlt).trans (hc k hk).1, (hb.cell (p := ⟨b, _, none⟩) hlt).trans (hc k hk).2.1, (hb.cell (p := ⟨b, _, none⟩) hlt).trans (hc k hk).2.2⟩⟩
theorem RdZ.take {w : World} {B : Nat} {A : Option Addr} {l : List Ans} (h : RdZ w B A l) (q : Nat) : RdZ w B A (l.take q) := fun hn => by
 rw [List.length_take] at hn
 obtain ⟨b, o, rfl, hlt, hc⟩ := h (by omega)
 refine ⟨b, o, rfl, hlt, fun k hk => ?_⟩
 rw [List.getElem_take]
 exact hc k (by rw [List.length_take] at hk; omega)
theorem RdA.take {w : World} {B : Nat} {A : Option Addr} {l : List Akt} (h : RdA w B A l) (q : Nat) : RdA w B A (l.take q) := fun hn => by
 rw [List.length_take] at hn
 obtain ⟨b, o, rfl, hlt, hc⟩ := h (by omega)
 refine ⟨b, o, rfl, hlt, fun k hk => ?_⟩
 rw [List.getElem_take]
 exact hc k (by rw [List.length_take] at hk; omega)
theorem RdA.after {w w' : World} {A : Option Addr} {l : List Akt} (h : RdA w w.heap.size A l) (hb : Below w.heap.size w w') : RdA w' w'.heap.size A l := fun hn => by
 obtain ⟨b, o, rfl, hlt, hc⟩ := h hn
 refine ⟨b, o, rfl, Nat.lt_of_lt_of_le hlt hb.size, fun k hk => ?_⟩
 obtain ⟨h0, h1, h2, h3, h4, h5⟩ := hc k hk
 exact ⟨(hb.cell (p := ⟨b, _, none⟩) hlt).trans h0, (hb.cell (p := ⟨b, _, none⟩) hlt).trans h1, (hb.cell (p := ⟨b, _, none⟩) hlt).trans h2, (hb.cell (p := ⟨b, _, none⟩) hlt).trans h3, (hb.cell (p := ⟨b, _, none⟩) hlt).trans h4, (hb.cell (p := ⟨b, _, none⟩) hlt).trans h5⟩
set_option maxHeartbeats 1000000 in
theorem Equal_ans (A A' : Option Addr) (n c c' : Nat) (l : List Ans) (w : World) (hn : l.length = n) (hr : RdZ w w.heap.size A l) (hr' : RdZ w w.heap.size A' l) (hl : n ≤ maxLen) :
  Calls Tryd.prog 31 #[.slice A n c, .slice A' n c'] w fun e w' => e = .returned (.bool true) ∧ Below w.heap.size w w' := by
 subst hn
 unfold maxLen at hl
 go_enter Tryd.func31, Tryd.ntmps31
 go_wp2
 go_loopw [13] (fun i wr => Cnt l.length i fun _ => ∃ n, wr = w.drewN n) (fun i _ => l.length - (intOf i).toNat)
 case atStart => exact ⟨0, Nat.zero_le _, rfl, 0, rfl⟩
 case round =>
  obtain ⟨k, hk, rfl, n, rfl⟩ := hrel
  by_cases hlt : k < l.length
  ·obtain ⟨b, o, rfl, hbB, hcell⟩ := hr (by omega)
   obtain ⟨b', o', rfl, hbB', hcell'⟩ := hr' (by omega)
   obtain ⟨c0, c1, c2⟩ := hcell k hlt
   obtain ⟨d0, d1, d2⟩ := hcell' k hlt
   clear hr hr' hcell hcell'
   generalize l[k] = z at *
   go_wp2
   go_quiet (fail)
   go_wp2
   exact ⟨⟨k + 1, by omega, by go_num, _, rfl⟩, by simp [intOf]; omega⟩
  ·go_wp2
   go_ret
   exact ⟨rfl, Below.drewN' (Below.refl _ _) n⟩
set_option maxHeartbeats 1000000 in
theorem Picked_anyB (n : Int) (m : Nat) (w : World) (h1 : -9223372036854775808 ≤ n) (h2 : n ≤ 9223372036854775807) (hm : 0 < m) (hm2 : (m : Int) ≤ 9223372036854775807) :
  Calls Tryd.prog 29 #[.int .i64 n, .int .i64 (m : Int)] w fun e w' => e = .returned (.int .i64 (pick n m : Nat)) ∧ w = w' := by
 have C := Lib.hid (picked_any n m w h1 h2 hm hm2)
 go_enter Tryd.func29, Tryd.ntmps29
 go_wp2_with fail
 refine C.out.mono ?_
 rintro e w' ⟨rfl, rfl⟩
 go_wp2
 go_ret
 exact ⟨rfl, rfl⟩
theorem wp_app2 {w W : World} {ops : Array Oper} {rest : List Oper} {o : Oper} {a : Act} {Q : Exit → Act → World → Prop} {A A2 : Option Addr} {c c2 : Nat} {l x : List Akt} (hW : RowA w W A c l) (hX : RdA W W.heap.size A2 x) (hgd : o.guard = none) (s y : Operand)
  (ho : o.op = .call { callee := .builtin .append, args := #[s, y], argTypes := #[27, 27] }) (hs : a.eval s = .slice A l.length c) (hy : a.eval y = .slice A2 x.length c2) (hlen : l.length + x.length ≤ 100000)
  (h : ∀ A' c' w', RowA w w' A' c' (l ++ x) → wpList Tryd.prog ops Q rest (a.put o.dst (.slice A' (l ++ x).length c')) w') : wpList Tryd.prog ops Q (o :: rest) a W := by
 obtain ⟨i0, hi0, hz0, hz1, hz2⟩ := info_parts info_Akt
 refine wpList_append_rd _ hgd s y _ ho w.heap.size 26 i0 _ 6 64 Tryd.underlying27 hi0 hz0 hz1 hz2 rfl (by omega) (.slice A l.length c) l.length (aktCells l) hs hW.own _ _ x.length c2 (aktCells x) hy hX.rd (akt_one _) (by simp [maxLen]; omega) (by omega) hW.be.size ?_
 intro v1 w3 hv1 hg1 _
 obtain ⟨A2, k2, rfl⟩ := own_slice hv1
 rw [← List.length_append]
 refine h A2 k2 w3 ⟨?_, hW.be.grown hg1 hW.be.size fun q hq => (hW.own.lt q hq).1⟩
 rw [List.length_append, aktCells_app]
 exact hv1
structure KTw (W : World) (q : Nat) (a : KA) (k : Krn) : Prop where
 bk : Blk W q 36 (a.cells k)
 kn : KrnAt W W.heap.size a k
theorem KTw.below {W W' : World} {q : Nat} {a : KA} {k : Krn} (h : KTw W q a k) (hb : Below W.heap.size W W') : KTw W' q a k := ⟨h.bk.below hb h.bk.lt, (h.kn.below hb).more hb.size⟩
theorem KTw.new {W : World} {a : KA} {k : Krn} (h : KrnAt W W.heap.size a k) : KTw (W.alloc (.cells (a.cells k) 36)) W.heap.size a k := by
 have hb := below_box W (.cells (a.cells k) 36)
 exact ⟨Blk.new _ _ _, (h.below hb).more hb.size⟩
set_option maxRecDepth 100000 in
set_option maxHeartbeats 4000000 in
theorem TopTwice_any (HRC : RunC 156) (A B : Option Addr) (c d : Nat) (l m : List Ins) (r : Ins) (x : Int) (w : World) (hr : RdI w w.heap.size A l) (hwf : ∀ i ∈ l, i.wf) (hl : l.length ≤ maxLen) (hr2 : RdI w w.heap.size B m) (hwf2 : ∀ i ∈ m, i.wf) (hl2 : m.length ≤ maxLen) (hrw : r.wf) (wx : (Lit.int .i64 x).wf = true) (ht : Tab w) :
  Calls Tryd.prog 10 #[.slice A l.length c, .slice B m.length d, .agg #[.int .i64 r.op, .int .i64 r.a, .int .i64 r.b, .int .i64 r.c], .int .i64 x] w fun e w' => e = .returned (.bool true) ∧ Below w.heap.size w w' := by
 obtain ⟨x1, x2⟩ := wf64_of wx
 have hb0 := below_box w (.cells #[.int .i64 r.op, .int .i64 r.a, .int .i64 r.b, .int .i64 r.c] 23)
 have HX := Lib.hid (Blk.new w 23 #[.int .i64 r.op, .int .i64 r.a, .int .i64 r.b, .int .i64 r.c])
 have HB := Lib.hid hb0
 have HT := Lib.hid ht
 have HI : Hid (∀ W : World, Below w.heap.size w W → Calls Tryd.prog 30 #[.slice B m.length d, .agg #[.int .i64 r.op, .int .i64 r.a, .int .i64 r.b, .int .i64 r.c], .string ⟨#[100, 101, 118]⟩, .int .i64 0] W fun e w' => ∃ A' c', e = .returned (.slice A' 2 c') ∧ RowA W w' A' c' (insL m r devT 0)) := fun W hb =>
  Installed_any B d m r devT 0 W ((hr2.below hb).more hb.size) hwf2 hl2 hrw (ht.below hb) (by decide)
 have HA : Hid (∀ W : World, Below w.heap.size w W → Calls Tryd.prog 15 #[.slice A l.length c, .int .i64 80] W fun e w' => ∃ A' c', e = .returned (.slice A' (actsL l 80).length c') ∧ RowA W w' A' c' (actsL l 80)) := fun W hb =>
  Acts_any A c 80 l W ((hr.below hb).more hb.size) hwf hl (by omega)
 have HX1 : Hid (∀ (n : Nat) (W : World), n ≤ 1000 → Calls Tryd.prog 29 #[.int .i64 x, .int .i64 ((n : Int) + 1)] W fun e w' => e = .returned (.int .i64 (pick x (n + 1) : Nat)) ∧ W = w') := fun n W hn => Picked_anyB x (n + 1) W x1 x2 (by omega) (by omega)
 have hln := actsL_length l 80
 have hok := actsL_ok l 80
 have hok2 := insL_ok m r devT 0 (by decide)
 have HLN := Lib.hid hln
 have HOK : Hid (ActsOk (insL m r devT 0 ++ actsL l 80)) := fun a ha => by
  rcases List.mem_append.1 ha with ha | ha
  ·exact hok2 a ha
  ·have h := hok a ha
   have h0 : noS.size ≤ maxLen := by decide
   refine ⟨?_, by have := h.data; unfold maxLen; omega⟩
   rcases h.name with e | e
   ·rw [e]; exact h0
   ·simp only [List.mem_cons, List.not_mem_nil, or_false] at e
    rcases e with e | e | e <;> rw [e] <;> decide
 clear hb0 hr hwf hl hr2 hwf2 hl2 hrw wx ht x1 x2 hln hok hok2
 have x0 := HX.out.cell 0
 have x1 := HX.out.cell 1
 have x2 := HX.out.cell 2
 have x3 := HX.out.cell 3
 have xl := HX.out.lt
 simp at x0 x1 x2 x3
 go_enter Tryd.func10, Tryd.ntmps10
 go_wp2_with fail
 refine (HI.out _ HB.out).mono ?_
 rintro e w1 ⟨A1, c1, rfl, h1⟩
 have HB1 := Lib.hid (HB.out.trans (h1.be.mono HB.out.size))
 have H1 : Hid (RowA w w1 A1 c1 (insL m r devT 0)) := ⟨own_base h1.own HB.out.size, HB1.out⟩
 clear h1 HI x0 x1 x2 x3 xl HX HB
 go_wp2_with fail
 refine (HA.out _ HB1.out).mono ?_
 rintro e w2 ⟨A2, c2, rfl, h2⟩
 have H2 := Lib.hid (H1.out.below h2.be)
 have H3 : Hid (RdA w2 w2.heap.size A2 (actsL l 80)) := RdA.of (Rd.of_own h2.own)
 clear h2 HA H1 HB1
 go_wp2_with (at_builtin; (refine wp_app2 (c2 := c2) H2.out H3.out rfl (.tmp 22) (.tmp 24) rfl rfl rfl (by have := HLN.out; show 2 + _ ≤ _; omega) ?_; intro A3 c3 w3 h4; obtain ⟨L, hL⟩ : ∃ L, L = insL m r devT 0 ++ actsL l 80 := ⟨_, rfl⟩; rw [← hL] at h4; rw [← hL]; have HL := Lib.hid hL; clear hL; obtain ⟨n, hn⟩ : ∃ n, n = L.length := ⟨_, rfl⟩; rw [← hn]; have HN := Lib.hid hn; clear hn; have hn8 : n ≤ 82 := (by rw [HN.out, HL.out, List.length_append]; have := HLN.out; show 2 + _ ≤ 82; omega); have hn9 : (n : Int) ≤ 82 := by omega))
 have hL := HL.out
 have hn := HN.out
 have hLn : 2 ≤ L.length ∧ L.length ≤ 82 := by
  rw [hL, List.length_append]
  have := HLN.out
  show 2 ≤ 2 + _ ∧ 2 + _ ≤ 82
  omega
 rw [← hL] at HOK
 obtain ⟨ba, e3, _, hba⟩ := own_addr h4.own (by omega)
 subst e3
 have hcap : L.length ≤ c3 ∧ c3 ≤ maxLen := by
  rcases h4.own.2 with ⟨h0, _⟩ | ⟨_, _, _, hv, _, _, hc, hm, _⟩
  ·cases h0
  ·injection hv with _ _ e3
   rw [← e3] at hc hm
   exact ⟨hc, hm⟩
 have hac : RdA w3 w3.heap.size (some ⟨ba, 0, none⟩) L := RdA.of (Rd.of_own h4.own)
 have hbe := h4.be
 rw [← hn] at hLn hcap
 obtain ⟨⟨kk, la⟩, hkl⟩ : ∃ z, z = runK newK L := ⟨_, rfl⟩
 have HLA : Hid (la.length = n) := by
  have h := runK_len L newK
  rw [← hkl] at h
  exact h.trans hn.symm
 have HRUN : Hid (∀ W : World, Below w.heap.size w W → RdA W W.heap.size (some ⟨ba, 0, none⟩) L → Calls Tryd.prog 16 #[.slice (some ⟨ba, 0, none⟩) n c3] W (RunKPost W (kk, la))) := fun W hb h => by
  have := KRun_any HRC (some ⟨ba, 0, none⟩) c3 L W h (by omega) HOK.out (HT.out.below hb)
  rw [← hkl, ← hn] at this
  exact this
 have HTK : Hid (∀ q, (runK newK (L.take q)).2 = la.take q) := fun q => by
  have := runK_take L q newK
  rw [← hkl] at this
  first | exact this | exact this.symm
 have HRUN2 : Hid (∀ (q : Nat) (W : World), q ≤ n → Below w.heap.size w W → RdA W W.heap.size (some ⟨ba, 0, none⟩) L → Calls Tryd.prog 16 #[.slice (some ⟨ba, 0, none⟩) q c3] W (RunKPost W (runK newK (L.take q)))) := fun q W hq hb h => by
  have h2 : (L.take q).length = q := by rw [List.length_take]; omega
  have := KRun_any HRC (some ⟨ba, 0, none⟩) c3 (L.take q) W (h.take q) (by omega) (fun a ha => HOK.out a (List.mem_of_mem_take ha)) (HT.out.below hb)
  rw [h2] at this
  exact this
 have HAC := Lib.hid hac
 have HBE := Lib.hid hbe
 clear h4 hac hbe hkl hn hL HRC HL
 obtain ⟨q, hq⟩ : ∃ q, q = pick x (n + 1) := ⟨_, rfl⟩
 have hqn : q ≤ n := by have := pick_lt x (show 0 < n + 1 by omega); omega
 go_wp2_with fail
 refine (HX1.out n _ (by omega)).mono ?_
 rintro e w' ⟨rfl, rfl⟩
 rw [← hq]
 clear hq HX1
 go_wp2_with fail
 refine (HRUN.out _ HBE.out HAC.out).mono ?_
 rintro e w4 ⟨AX, cX, ak, rfl, hO, hK, hcp, hb1⟩
 simp only at hO hK hcp
 have hLL := HLA.out
 have hxo := RdZ.of hO
 have hxc : la.length ≤ cX ∧ cX ≤ maxLen := by
  rcases hO.2 with ⟨_, h0⟩ | ⟨_, _, _, hv, _, _, hc, hm, _⟩
  ·omega
  ·injection hv with _ _ e3
   rw [← e3] at hc hm
   exact ⟨hc, hm⟩
 obtain ⟨bx, ebx, _, hbx⟩ := own_addr hO (by omega)
 subst ebx
 have hkn := KTw.new (hK w4 (Stp.refl _))
 have hba := below_box w4 (.cells (ak.cells kk) 36)
 have g1 := (hxo.below hba)
 have g2 := (HAC.out.after hb1).after hba
 have g3 := (HBE.out.trans (hb1.mono HBE.out.size)).trans (hba.mono (Nat.le_trans HBE.out.size hb1.size))
 rw [hLL] at hxc ⊢
 clear hO hK hcp hb1 hxo hba HAC HBE hLL
 unfold KA.cells
 go_upto_region 4 with fail
 obtain ⟨bk, hbk⟩ : ∃ b, b = w4.heap.size := ⟨_, rfl⟩
 rw [← hbk] at hkn ⊢
 clear hbk
 refine (show ∀ W : World, Below w.heap.size w W → RdA W W.heap.size (some ⟨ba, 0, none⟩) L → RdZ W W.heap.size (some ⟨bx, 0, none⟩) la → KTw W bk ak kk → Code.wp _ _ _ _ W from ?_) _ g3 g2 g1 hkn
 clear g1 g2 g3 hkn
 intro W1 g3 g2 g1 hkn
 have HBE := Lib.hid g3
 have HAC := Lib.hid g2
 have HAX := Lib.hid g1
 have HKN := Lib.hid hkn
 clear g1 g2 g3 hkn
 have hc0 : ¬ c3 = 0 := by omega
 have hcm := hcap.2
 unfold maxLen at hcm
 have hq1 : q ≤ c3 := by omega
 go_wp2_with fail
 refine (HRUN2.out q _ hqn HBE.out HAC.out).mono ?_
 rintro e w5 ⟨AY, cY, bk2, rfl, hO, hK, hcp, hb1⟩
 have hz := RdZ.of hO
 rw [HTK.out] at hz ⊢
 have hlt : (la.take q).length = q := by rw [List.length_take, HLA.out]; omega
 obtain ⟨k2, hk2⟩ : ∃ z, z = (runK newK (L.take q)).1 := ⟨_, rfl⟩
 rw [← hk2] at hK hcp ⊢
 clear hk2
 have hba := below_box w5 (.cells (bk2.cells k2) 36)
 have g1 := (HAX.out.below hb1).below hba
 have g2 := (HAC.out.after hb1).after hba
 have g3 := (HBE.out.trans (hb1.mono HBE.out.size)).trans (hba.mono (Nat.le_trans HBE.out.size hb1.size))
 have g4 := (HKN.out.below hb1).below hba
 have g5 := hz.below hba
 rw [hlt]
 clear hO hK hcp hb1 hz hba HAC HBE HAX HKN hlt
 unfold KA.cells
 go_upto_region 5 with fail
 refine (show ∀ W : World, Below w.heap.size w W → RdA W W.heap.size (some ⟨ba, 0, none⟩) L → RdZ W W.heap.size (some ⟨bx, 0, none⟩) la → KTw W bk ak kk → RdZ W W.heap.size AY (la.take q) → Code.wp _ _ _ _ W from ?_) _ g3 g2 g1 g4 g5
 clear g1 g2 g3 g4 g5
 intro W2 g3 g2 g1 g4 g5
 have HBE := Lib.hid g3
 have HAC := Lib.hid g2
 have HAX := Lib.hid g1
 have HKN := Lib.hid g4
 have HAY := Lib.hid g5
 clear g1 g2 g3 g4 g5
 go_wp2_with fail
 refine (HRUN.out _ HBE.out HAC.out).mono ?_
 rintro e w6 ⟨AZ, cZ, ak3, rfl, hO, hK, hcp, hb1⟩
 simp only at hO hK hcp
 have hLL := HLA.out
 have hxo := RdZ.of hO
 have hkn := KTw.new (hK w6 (Stp.refl _))
 have hba := below_box w6 (.cells (ak3.cells kk) 36)
 have g1 := hxo.below hba
 have g2 := (HAX.out.below hb1).below hba
 have g3 := (HBE.out.trans (hb1.mono HBE.out.size)).trans (hba.mono (Nat.le_trans HBE.out.size hb1.size))
 have g4 := (HKN.out.below hb1).below hba
 have g5 := (HAY.out.below hb1).below hba
 rw [hLL]
 clear hO hK hcp hb1 hxo hba HAC HBE HAX HKN HAY hLL
 unfold KA.cells
 go_upto_region 6 with fail
 obtain ⟨bz, hbz⟩ : ∃ b, b = w6.heap.size := ⟨_, rfl⟩
 rw [← hbz] at hkn ⊢
 clear hbz
 refine (show ∀ W : World, Below w.heap.size w W → RdZ W W.heap.size (some ⟨bx, 0, none⟩) la → KTw W bk ak kk → RdZ W W.heap.size AY (la.take q) → RdZ W W.heap.size AZ la → KTw W bz ak3 kk → Code.wp _ _ _ _ W from ?_) _ g3 g2 g4 g5 g1 hkn
 clear g1 g2 g3 g4 g5 hkn
 intro W3 g3 g2 g4 g5 g1 hkn
 have HBE := Lib.hid g3
 have HAX := Lib.hid g2
 have HKN := Lib.hid g4
 have HAZ := Lib.hid g1
 have HKZ := Lib.hid hkn
 have HC := Lib.hid (Equal_ans (some ⟨bx, 0, none⟩) AY q cX cY (la.take q) W3 (by rw [List.length_take, HLA.out]; omega) (g2.take q) g5 (by unfold maxLen; omega))
 clear g1 g2 g3 g4 g5 hkn
 have hx0 : ¬ cX = 0 := by omega
 have hxm := hxc.2
 unfold maxLen at hxm
 have hx1 : q ≤ cX := by omega
 go_wp2_with fail
 refine HC.out.mono ?_
 rintro e w7 ⟨rfl, hb1⟩
 have HBE2 := Lib.hid (HBE.out.trans (hb1.mono HBE.out.size))
 have HKN2 := Lib.hid (HKN.out.below hb1)
 have HKZ2 := Lib.hid (HKZ.out.below hb1)
 have HC2 := Lib.hid (Equal_ans (some ⟨bx, 0, none⟩) AZ n cX cZ la w7 HLA.out (HAX.out.below hb1) (HAZ.out.below hb1) (by unfold maxLen; omega))
 clear hb1 HC HBE HAX HKN HAZ HKZ
 go_wp2_with fail
 refine HC2.out.mono ?_
 rintro e w8 ⟨rfl, hb1⟩
 have HBE3 := Lib.hid (HBE2.out.trans (hb1.mono HBE2.out.size))
 have h1 := HKN2.out.below hb1
 have h2 := HKZ2.out.below hb1
 have c1 := h1.bk.cell 1
 have cl := h1.bk.lt
 have d1 := h2.bk.cell 1
 have dl := h2.bk.lt
 simp [KA.cells] at c1 d1
 have HC3 := Lib.hid (Equal_int ak.a1 ak3.a1 ak.c1 ak3.c1 kk.mem w8 h1.kn.mem h2.kn.mem (by have := h1.kn.l1; unfold maxLen; omega))
 clear hb1 HC2 HBE2 HKN2 HKZ2 h1 h2
 go_wp2_with fail
 refine HC3.out.mono ?_
 rintro e w9 ⟨rfl, k9, rfl⟩
 clear c1 cl d1 dl HC3
 go_wp2
 go_ret
 exact ⟨rfl, Below.drewN' HBE3.out k9⟩
end Go.Proofs.YtdjamdbamkhblacDoor
namespace Go.Proofs.YtdjamdbamkhblacDoor
open Go.RowKit
def touchMc (s : Mc) (i : Ins) : Mc :=
 if rg s i.b < s.mem.length then (if i.op = 8 then { s with regs := s.regs.set i.a.toNat (s.mem.getD (rg s i.b) 0) } else { s with mem := s.mem.set (rg s i.b) (rg s i.a) }) else s
def TouchPost (w0 : World) (g : Nat) (C : Value) (s : Mc) (i : Ins) (en : Nat) (B T M : Value) (e : Ending) (w' : World) : Prop :=
 ∃ z : Int, Hid (z = if rg s i.b < s.mem.length then 0 else 3) ∧ e = .returned (.int .i64 z) ∧ Mach w0 w' g C (touchMc s i) en B T M
set_option maxHeartbeats 4000000 in
theorem touch_any (w0 : World) (g en : Nat) (C B T M : Value) (s : Mc) (i : Ins) (w : World) (h : Mach w0 w g C s en B T M) (hs : McOk s) (hi : InsOk i) (ho : i.op = 8 ∨ i.op = 9) (hml : s.mem.length ≤ 1024) :
  Calls Tryd.prog 181 #[.pointer (some ⟨g, 0, none⟩), i.val] w (TouchPost w0 g C s i en B T M) := by
 obtain ⟨o1, o2, a0, a7, b0, b7, c0, cw, c7⟩ := hi
 obtain ⟨o, a, b, c⟩ := i
 simp only at o1 o2 a0 a7 b0 b7 c0 cw c7 ho ⊢
 unfold Ins.val
 simp only
 obtain ⟨bn, rfl⟩ : ∃ n : Nat, b = (n : Int) := ⟨b.toNat, by omega⟩
 obtain ⟨an, rfl⟩ : ∃ n : Nat, a = (n : Int) := ⟨a.toNat, by omega⟩
 have hr8 := hs.regs
 have hbn : (bn : Int) < 8 := by omega
 have han : (an : Int) < 8 := by omega
 have e1 := (h.blk.cell (4 + bn)).trans (mc_reg bn (by omega))
 have e2 := (h.blk.cell (4 + an)).trans (mc_reg an (by omega))
 have e3 := h.blk.cell 13
 have hg := h.blk.lt
 have hg1 : g < w.heap.size + 1 := by omega
 have fz := h.blk.frozen (4 + an)
 obtain ⟨A3, k3, hM⟩ := own_slice h.om
 have hX : Hid (rg s (bn : Int) = s.regs.getD bn 0) := rfl
 have hY : Hid (rg s (an : Int) = s.regs.getD an 0) := rfl
 subst hM
 simp [mcCells] at e3
 unfold natV at e1 e2
 obtain ⟨x, hx⟩ : ∃ x, s.regs.getD bn 0 = x := ⟨_, rfl⟩
 obtain ⟨y, hy⟩ : ∃ y, s.regs.getD an 0 = y := ⟨_, rfl⟩
 rw [hx] at e1
 rw [hy] at e2
 have HX := Lib.hid hx
 have HY := Lib.hid hy
 clear hx hy
 have H := Lib.hid h
 clear h
 have hwg : w.heap.size ≠ g := by omega
 have hwg' : g ≠ w.heap.size := by omega
 by_cases hlt : x < s.mem.length
 ·obtain ⟨q, cap, hv, hq, hql⟩ := H.out.om.form (by omega)
  injection hv with hv1 hv2 hv3
  subst hv1 hv3
  clear hv2
  have e4 := H.out.om.cells (g := q) rfl x _ (natsV_at hlt)
  rw [add_plain, Nat.zero_add] at e4
  unfold natV at e4
  have hgq : g ≠ q := fun e => own_blk_ne H.out.om H.out.blk (by decide) (by rw [e]; rfl)
  have hqg : q ≠ g := Ne.symm hgq
  have hq1 : q < w.heap.size + 1 := by omega
  have hwq : w.heap.size ≠ q := by omega
  have hwq' : q ≠ w.heap.size := by omega
  obtain ⟨v, hvv⟩ : ∃ v, s.mem.getD x 0 = v := ⟨_, rfl⟩
  rw [hvv] at e4
  have HV := Lib.hid hvv
  clear hvv
  have HE : Hid ((if rg s (bn : Int) < s.mem.length then (0 : Int) else 3) = 0) := if_pos (by rw [hX.out, HX.out]; exact hlt)
  have fq : w.frozen? ⟨q, x, none⟩ = false := by
   rcases H.out.om.2 with ⟨h0, _⟩ | ⟨g', cap', cur, hv, _, hh, _⟩
   ·cases h0
   ·injection hv with e1
    injection e1 with e1
    injection e1 with e1
    subst e1
    exact Blk.frozen (t := 3) (cs := cur) hh x
  rcases ho with rfl | rfl
  ·have HT : Hid (touchMc s ⟨8, (an : Int), (bn : Int), c⟩ = { s with regs := s.regs.set an v }) := by
    show _ = _
    unfold touchMc
    simp only
    rw [hX.out, HX.out, if_pos hlt, HV.out]
    rfl
   go_enter Tryd.func181, Tryd.ntmps181
   go_wp2
   go_quiet (fail)
   go_wp2
   go_region_law (first | fail)
   all_goals
    go_wp2
    go_ret
    exact ⟨_, HE.out.symm, rfl, by rw [HT.out]; exact (H.out.later (Below.drewN' ((Below.refl w.heap.size w).alloc (Nat.le_refl _) _) _)).setreg hr8 an (by omega) _⟩
  ·have HT : Hid (touchMc s ⟨9, (an : Int), (bn : Int), c⟩ = { s with mem := s.mem.set x y }) := by
    show _ = _
    unfold touchMc
    simp only
    rw [hX.out, HX.out, if_pos hlt, hY.out, HY.out]
    rfl
   go_enter Tryd.func181, Tryd.ntmps181
   go_wp2
   go_quiet (fail)
   go_wp2
   go_region_law (first | fail)
   all_goals
    go_wp2
    go_ret
    exact ⟨_, HE.out.symm, rfl, by rw [HT.out]; exact (H.out.later (Below.drewN' ((Below.refl w.heap.size w).alloc (Nat.le_refl _) _) _)).setmem rfl x y⟩
 ·have hge : s.mem.length ≤ x := by omega
  have HE : Hid ((if rg s (bn : Int) < s.mem.length then (0 : Int) else 3) = 3) := if_neg (by rw [hX.out, HX.out]; exact hlt)
  have HT : Hid (touchMc s ⟨o, (an : Int), (bn : Int), c⟩ = s) := by
   show _ = _
   unfold touchMc
   simp only
   rw [hX.out, HX.out, if_neg hlt]
  clear hlt
  go_enter Tryd.func181, Tryd.ntmps181
  go_wp2
  go_quiet (fail)
  go_wp2
  go_ret
  exact ⟨_, HE.out.symm, rfl, by rw [HT.out]; exact H.out.later (Below.drewN' ((Below.refl w.heap.size w).alloc (Nat.le_refl _) _) _)⟩
end Go.Proofs.YtdjamdbamkhblacDoor
