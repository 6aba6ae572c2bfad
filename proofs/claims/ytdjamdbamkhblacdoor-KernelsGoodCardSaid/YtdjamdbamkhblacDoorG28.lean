/- What K.Data and K.Acts make of raw things, and what TopQuiet puts in: plain mathematics. The walk of K.Data: bytes of raw things. No condition. A row of acts of a call's own; an append of a literal; one slice in a block. No condition. -/
import Derived.Test.YtdjamdbamkhblacDoorG27
import Derived.Test.YtdjamdbamkhblacDoorG26
import Derived.Test.YtdjamdbamkhblacDoorByRow
import Derived.Test.YtdjamdbamkhblacDoorG01
import Derived.BigQuiet
import Derived.Deep.DeepCutAuto
namespace Go.Proofs.YtdjamdbamkhblacDoor
open Go.RowKit
instance : DecidableEq Akt := fun a b =>
 if h : a.kind = b.kind ∧ a.p = b.p ∧ a.n = b.n ∧ a.m = b.m ∧ a.name = b.name ∧ a.data = b.data then .isTrue (by cases a; cases b; simp_all)
 else .isFalse (fun e => h (by subst e; exact ⟨rfl, rfl, rfl, rfl, rfl, rfl⟩))
def dataTo (b : Int) (k : Nat) : List UInt8 := (List.range k).map fun i => u8 (97 + (i + pick b 26) % 26)
def dataS (a b : Int) : ByteArray := ⟨(dataTo b (1 + pick a 30)).toArray⟩
theorem dataS_size (a b : Int) : (dataS a b).size = 1 + pick a 30 := by simp [dataS, dataTo, ByteArray.size]
theorem dataS_le (a b : Int) : 1 ≤ (dataS a b).size ∧ (dataS a b).size ≤ 30 := by
 rw [dataS_size]
 have := pick_lt a (m := 30) (by omega)
 omega
def nameA (c : Int) : ByteArray := if pick c 3 = 0 then fS else if pick c 3 = 1 then gS else devS
theorem nameA_mem (c : Int) : nameA c ∈ [fS, gS, devS] := by
 unfold nameA
 split
 ·simp
 split <;> simp
def actI (r : Ins) : Akt :=
 if pick r.op 30 < 2 then ⟨2, 0, 0, 0, nameA r.c, noS⟩
 else if pick r.op 30 = 2 then ⟨4, 0, 0, 0, nameA r.c, noS⟩
 else if pick r.op 30 < 8 then ⟨5, (pick r.a 3 : Nat), 0, 0, nameA r.c, noS⟩
 else if pick r.op 30 < 10 then ⟨6, (pick r.a 3 : Nat), (pick r.b 6 : Nat), 0, noS, noS⟩
 else if pick r.op 30 < 17 then ⟨7, (pick r.a 3 : Nat), (pick r.b 6 : Nat), (1 + pick r.c 30 : Nat), noS, noS⟩
 else if pick r.op 30 < 24 then ⟨8, (pick r.a 3 : Nat), (pick r.b 6 : Nat), 0, noS, dataS r.c r.b⟩
 else if pick r.op 30 < 26 then ⟨9, (pick r.a 3 : Nat), 0, 0, noS, noS⟩
 else if pick r.op 30 < 29 then ⟨10, (pick r.a 3 : Nat), 0, 0, noS, noS⟩
 else ⟨11, (1 + pick r.a 3 : Nat), 0, 0, noS, noS⟩
def actsL (l : List Ins) (most : Nat) : List Akt := (l.take most).map actI
theorem actsL_length (l : List Ins) (most : Nat) : (actsL l most).length ≤ most := by simp [actsL]; omega
structure ActOk (a : Akt) : Prop where
 k2 : 2 ≤ a.kind
 k11 : a.kind ≤ 11
 name : a.name = noS ∨ a.name ∈ [fS, gS, devS]
 exit : a.kind = 11 → a.p ≠ 0
 data : a.data.size ≤ 30
theorem actI_ok (r : Ins) : ActOk (actI r) := by
 have hn := nameA_mem r.c
 have hd := (dataS_le r.c r.b).2
 have n0 : noS.size ≤ 30 := by decide
 unfold actI
 repeat' split
 all_goals refine ⟨by simp, by simp, ?_, ?_, ?_⟩
 all_goals first
  | exact .inr hn
  | exact .inl rfl
  | exact n0
  | exact hd
  | (intro h; simp at h; done)
  | (intro _; show ((1 + pick r.a 3 : Nat) : Int) ≠ 0; omega)
theorem actsL_ok (l : List Ins) (most : Nat) : ∀ a ∈ actsL l most, ActOk a := fun a ha => by
 obtain ⟨r, _, rfl⟩ := List.mem_map.1 ha
 exact actI_ok r
end Go.Proofs.YtdjamdbamkhblacDoor
namespace Go.Proofs.YtdjamdbamkhblacDoor
open Go.RowKit
set_option linter.unusedVariables false
set_option linter.unusedSimpArgs false
structure DatS (w wr : World) (r : Ins) (n k : Nat) (cs : Array Value) : Prop where
 below : Below w.heap.size w wr
 raw : Blk wr w.heap.size 23 #[.int .i64 r.op, .int .i64 r.a, .int .i64 r.b, .int .i64 r.c]
 blk : Blk wr (w.heap.size + 1) 5 cs
 size : cs.size = n
 known : ∀ j, j < k → cs[j]? = some (.int .u8 ((97 + (j + pick r.b 26) % 26 : Nat) : Int))
theorem DatS.next {w wr : World} {r : Ins} {n k : Nat} {cs : Array Value} (h : DatS w wr r n k cs) (hk : k < n) : DatS w (wr.setCell ⟨w.heap.size + 1, k, none⟩ (.int .u8 ((97 + (k + pick r.b 26) % 26 : Nat) : Int))) r n (k + 1) (cs.setIfInBounds k (.int .u8 ((97 + (k + pick r.b 26) % 26 : Nat) : Int))) := by
 refine ⟨h.below.setCell (p := ⟨w.heap.size + 1, k, none⟩) (by simp) _, h.raw.far (by simp) _, h.blk.set_ k _, by simp [h.size], fun j hj => ?_⟩
 rw [Array.getElem?_setIfInBounds]
 by_cases e : k = j
 ·subst e
  simp [h.size, hk]
 ·rw [if_neg e]
  exact h.known j (by omega)
theorem DatS.start (w : World) (r : Ins) (n : Nat) : DatS w ((w.alloc (.cells #[.int .i64 r.op, .int .i64 r.a, .int .i64 r.b, .int .i64 r.c] 23)).alloc (.cells (madeCells #[.int .u8 0] n) 5)) r n 0 (madeCells #[.int .u8 0] n) := by
 have h1 := (Below.refl w.heap.size w).alloc (Nat.le_refl _) (.cells #[.int .i64 r.op, .int .i64 r.a, .int .i64 r.b, .int .i64 r.c] 23)
 exact ⟨h1.alloc h1.size _, (Blk.new w _ _).alloc _, Blk.new' (by simp), by rw [size_madeCells], fun j hj => by omega⟩
theorem dataTo_length (b : Int) (k : Nat) : (dataTo b k).length = k := by simp [dataTo]
theorem DatS.row {w wr : World} {r : Ins} {n : Nat} {cs : Array Value} (h : DatS w wr r n n cs) (hn : n ≤ maxLen) : ByRow wr w.heap.size (w.heap.size + 1) n (dataTo r.b n) := by
 have hl := dataTo_length r.b n
 refine ⟨by omega, by omega, hn, fun j hj => ?_, fun j hj => ?_, fun j hj => h.blk.frozen j, ⟨cs, (0, 0), h.blk⟩⟩
 ·rw [h.blk.cell, h.known j (by omega)]
  congr 2
  simp only [dataTo, List.getElem_map, List.getElem_range]
  rw [u8_toNat]
  omega
 ·rw [h.blk.cell, Array.getElem?_eq_getElem (by rw [h.size]; exact hj)]
  rfl
set_option maxRecDepth 100000 in
set_option maxHeartbeats 4000000 in
theorem KData_any (r : Ins) (hr : r.wf) (w : World) :
  Calls Tryd.prog 12 #[.agg #[.int .i64 r.op, .int .i64 r.a, .int .i64 r.b, .int .i64 r.c]] w fun e w' => e = .returned (.string (dataS r.a r.b)) ∧ Below w.heap.size w w' := by
 obtain ⟨_, hra, hrb, _⟩ := hr
 obtain ⟨p, hp⟩ : ∃ p, p = pick r.a 30 := ⟨_, rfl⟩
 have hp30 : p < 30 := by rw [hp]; exact pick_lt _ (by omega)
 have CA : Hid (∀ W : World, Calls Tryd.prog 13 #[.int .i64 r.a, .int .i64 30] W fun e w' => e = .returned (.int .i64 (p : Nat)) ∧ W = w') := fun W => by rw [hp]; exact picked_any r.a 30 W hra.1 hra.2 (by omega) (by omega)
 obtain ⟨q, hq⟩ : ∃ q, q = pick r.b 26 := ⟨_, rfl⟩
 have hq26 : q < 26 := by rw [hq]; exact pick_lt _ (by omega)
 have CB : Hid (∀ W : World, Calls Tryd.prog 13 #[.int .i64 r.b, .int .i64 26] W fun e w' => e = .returned (.int .i64 (q : Nat)) ∧ W = w') := fun W => by rw [hq]; exact picked_any r.b 26 W hrb.1 hrb.2 (by omega) (by omega)
 have HV : Hid (dataS r.a r.b = ⟨(dataTo r.b (1 + p)).toArray⟩) := by show _ = _; rw [hp]; rfl
 have HQ := Lib.hid hq
 have hmk : ∀ w : World, (Instr.makeSlice 84 (.int .i64 (1 + (p : Int))) (.int .i64 (1 + (p : Int)))).run Tryd.prog w = .ok (.slice (some ⟨w.heap.size, 0, none⟩) (1 + p) (1 + p)) (w.alloc (.cells (madeCells #[.int .u8 0] (1 + p)) 5)) := fun w => by
  have e := mk_lit w 84 5 _ 1 1 (1 + p) Tryd.underlying84 binfo_u8 (by omega) (by omega)
  have ec : ((1 + p : Nat) : Int) = 1 + (p : Int) := by omega
  rw [Nat.mul_one, ec] at e
  exact e
 have hS := DatS.start w r (1 + p)
 clear hp hq hra hrb
 go_enter Tryd.func12, Tryd.ntmps12
 go_wp2_with (first | (go_at_call 13; (with_reducible refine (CA.out _).mono ?_); rintro e w' ⟨rfl, rfl⟩))
 go_loopw [12] (fun i wr => Cnt (1 + p) i fun k => ∃ cs, DatS w wr r (1 + p) k cs) (fun i _ => 1 + p - (intOf i).toNat)
 case atStart => exact ⟨0, Nat.zero_le _, rfl, _, hS⟩
 case round =>
  clear hS
  obtain ⟨k, hk', rfl, cs, hS⟩ := hrel
  by_cases hlt : k < 1 + p
  ·have hkp : (k : Int) < 1 + (p : Int) := by omega
   obtain ⟨x0, hx0⟩ : ∃ x0, cs[k]? = some x0 := ⟨_, Array.getElem?_eq_getElem (by rw [hS.size]; exact hlt)⟩
   have c0 := (hS.blk.cell k).trans hx0
   have f0 := hS.blk.frozen k
   have bl := hS.blk.lt
   have d2 := hS.raw.cell 2
   have dl := hS.raw.lt
   simp at d2
   have HN := Lib.hid (hS.next hlt)
   have HK := Lib.hid hkp
   clear hS hx0
   go_wp2_with (first | (go_at_call 13; (with_reducible refine (CB.out _).mono ?_); rintro e w' ⟨rfl, rfl⟩))
   have e1 : 97 + ((k : Int) + (q : Int)) % 26 = ((97 + (k + pick r.b 26) % 26 : Nat) : Int) := by rw [← HQ.out]; omega
   exact ⟨⟨k + 1, by omega, by go_num, _, by rw [e1]; exact HN.out⟩, by simp [intOf]; omega⟩
  ·obtain rfl : k = 1 + p := by omega
   have HRW := hS.row (by unfold maxLen; omega)
   have hcv := conv_row (cap := 1 + p) HRW
   rw [dataTo_length] at hcv
   have HB := Lib.hid hS.below
   clear hS HRW
   go_wp2
   go_ret
   rw [HV.out]
   exact ⟨rfl, HB.out⟩
end Go.Proofs.YtdjamdbamkhblacDoor
namespace Go.Proofs.YtdjamdbamkhblacDoor
open Go.RowKit
set_option linter.unusedVariables false
set_option linter.unusedSimpArgs false
structure RowA (w W : World) (A : Option Addr) (c : Nat) (l : List Akt) : Prop where
 own : W.ownsRow w.heap.size 26 6 (.slice A l.length c) l.length (aktCells l)
 be : Below w.heap.size w W
theorem RowA.below {w W W' : World} {A : Option Addr} {c : Nat} {l : List Akt} (h : RowA w W A c l) (hb : Below W.heap.size W W') : RowA w W' A c l := ⟨own_below h.own hb, h.be.trans (hb.mono h.be.size)⟩
theorem RowA.lit {w W : World} (hb : Below w.heap.size w W) {l : List Akt} {cs : Array Value} (hcs : cs = (aktCells l).toArray) (hl : l.length ≤ 100000) : RowA w (W.alloc (.cells cs 26)) (some ⟨W.heap.size, 0, none⟩) l.length l := by
 have hs : cs.size = l.length * 6 := by rw [hcs]; simp [aktCells_len]
 have h := World.ownsRow_lit (base := w.heap.size) (e := 26) (size := 6) W cs l.length hb.size (by simp [maxLen]; omega) hs
 rw [hcs] at h
 rw [hcs]
 exact ⟨h, hb.alloc hb.size _⟩
theorem wp_app {w W : World} {ops : Array Oper} {rest : List Oper} {o : Oper} {a : Act} {Q : Exit → Act → World → Prop} {A : Option Addr} {c : Nat} {l : List Akt} (x : List Akt) {cs : Array Value} {m c2 : Nat} (hW : RowA w W A c l) (hgd : o.guard = none) (s y : Operand)
  (ho : o.op = .call { callee := .builtin .append, args := #[s, y], argTypes := #[27, 27] }) (hs : a.eval s = .slice A l.length c) (hy : a.eval y = .slice (some ⟨W.heap.size, 0, none⟩) m c2) (hm : m = x.length) (hcs : cs = (aktCells x).toArray) (hlen : l.length + x.length ≤ 100000)
  (h : ∀ A' c' w', RowA w w' A' c' (l ++ x) → wpList Tryd.prog ops Q rest (a.put o.dst (.slice A' (l ++ x).length c')) w') : wpList Tryd.prog ops Q (o :: rest) a (W.alloc (.cells cs 26)) := by
 obtain ⟨i0, hi0, hz0, hz1, hz2⟩ := info_parts info_Akt
 have hba := (Below.refl W.heap.size W).alloc (Nat.le_refl _) (.cells cs 26)
 have hW2 := hW.below hba
 have hr := (RdA.blk (Blk.new W 26 cs) hcs).rd
 rw [hm] at hy
 refine wpList_append_rd _ hgd s y _ ho w.heap.size 26 i0 _ 6 64 Tryd.underlying27 hi0 hz0 hz1 hz2 rfl (by omega) (.slice A l.length c) l.length (aktCells l) hs hW2.own _ _ x.length c2 (aktCells x) hy hr (akt_one _) (by simp [maxLen]; omega) (by omega) hW2.be.size ?_
 intro v1 w3 hv1 hg1 _
 obtain ⟨A2, k2, rfl⟩ := own_slice hv1
 rw [← List.length_append]
 refine h A2 k2 w3 ⟨?_, hW2.be.grown hg1 hW2.be.size fun q hq => (hW2.own.lt q hq).1⟩
 rw [List.length_append, aktCells_app]
 exact hv1
theorem Sls.one {w W : World} {A : Option Addr} {c : Nat} {l : List Akt} {t : TypeId} (h : RowA w W A c l) : Sls (W.alloc (.cells #[.slice A l.length c] t)) (W.alloc (.cells #[.slice A l.length c] t)).heap.size W.heap.size [(A, c, l)] := by
 have hba := (Below.refl W.heap.size W).alloc (Nat.le_refl _) (.cells #[.slice A l.length c] t)
 refine ⟨by simp, fun q hq => ?_, fun q hq => ?_⟩
 ·have : q = 0 := by simp at hq; omega
  subst this
  exact (Blk.new W t #[.slice A l.length c]).cell 0
 ·have : q = 0 := by simp at hq; omega
  subst this
  exact RdA.of ((Rd.of_own (h.below hba).own))
end Go.Proofs.YtdjamdbamkhblacDoor
