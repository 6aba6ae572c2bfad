/- Acts laid in a block read as a list; answers read off a script's row. No condition. The walks of slices.Grow and slices.Concat at acts. No condition. Two kernels that differ in the first region's words at most remain so, whatever is done to both: plain mathematics. A script with acts put in that the first module's device answers leaves files, pipes, processes and the other words as without them: plain mathematics. A kernel without modules, its names, and acts that fail: plain mathematics. What K.Data and K.Acts make of raw things, and what TopQuiet puts in: plain mathematics. The walk of K.Data: bytes of raw things. No condition. A row of acts of a call's own; an append of a literal; one slice in a block. No condition. The walk of top.installed: two acts, a module of raw things is installed, and attached. Condition: the listed table. -/
import Derived.Test.YtdjamdbamkhblacDoorKRun
import Derived.Lib.AppendZeros
import Derived.Test.YtdjamdbamkhblacDoorG29
import Derived.Test.YtdjamdbamkhblacDoorG03
import Derived.Test.YtdjamdbamkhblacDoorG23
import Derived.Test.YtdjamdbamkhblacDoorG01
import Derived.BigQuiet
import Derived.Deep.DeepCutAuto
import Derived.Test.YtdjamdbamkhblacDoorG04
import Derived.Test.YtdjamdbamkhblacDoorG05
import Derived.Test.YtdjamdbamkhblacDoorEncode
namespace Go.Proofs.YtdjamdbamkhblacDoor
open Go.RowKit
set_option linter.unusedVariables false
set_option linter.unusedSimpArgs false
def aktCells (l : List Akt) : List Value := l.flatMap fun x => [.int .i64 x.kind, .int .i64 x.p, .int .i64 x.n, .int .i64 x.m, .string x.name, .string x.data]
theorem aktCells_len (l : List Akt) : (aktCells l).length = l.length * 6 := flat_len _ 6 (fun _ => rfl) l
theorem aktCells_app (l r : List Akt) : aktCells (l ++ r) = aktCells l ++ aktCells r := by simp [aktCells]
theorem akt_one (l : List Akt) : ∀ u ∈ aktCells l, u.oneCell' = true := by
 intro u hu
 simp only [aktCells, List.mem_flatMap] at hu
 obtain ⟨i, _, hu⟩ := hu
 simp at hu
 rcases hu with h | h | h | h | h | h <;> subst h <;> rfl
theorem RdA.of {w : World} {B : Nat} {A : Option Addr} {l : List Akt} (h : Rd w B 6 A l.length (aktCells l)) : RdA w B A l := fun hl => by
 obtain ⟨b, o, e, hb, hc⟩ := h.2 hl
 refine ⟨b, o, e, hb, fun k hk => ?_⟩
 have f := fun j hj => flat_at (fun x : Akt => [Value.int .i64 x.kind, .int .i64 x.p, .int .i64 x.n, .int .i64 x.m, .string x.name, .string x.data]) 6 (fun _ => rfl) l k hk j hj
 exact ⟨hc _ _ (f 0 (by omega)), hc _ _ (f 1 (by omega)), hc _ _ (f 2 (by omega)), hc _ _ (f 3 (by omega)), hc _ _ (f 4 (by omega)), hc _ _ (f 5 (by omega))⟩
theorem RdA.blk {w : World} {g : Nat} {l : List Akt} {cs : Array Value} (h : Blk w g 26 cs) (hc : cs = (aktCells l).toArray) : RdA w w.heap.size (some ⟨g, 0, none⟩) l := by
 have hs : cs.size = l.length * 6 := by rw [hc]; simp [aktCells_len]
 have := h.rd l.length 6 (by omega)
 rw [hc] at this
 simp only at this
 rw [List.take_of_length_le (by rw [aktCells_len]; omega)] at this
 exact RdA.of this
theorem RunKPost.at_ {w w' : World} {A : Option Addr} {c : Nat} {l : List Ans} (h : w'.ownsRow w.heap.size 41 3 (.slice A l.length c) l.length (ansCells l)) (hn : 0 < l.length) :
  ∃ b, A = some ⟨b, 0, none⟩ ∧ b < w'.heap.size ∧ ∀ k (hk : k < l.length), w'.cell? ⟨b, k * 3, none⟩ = some (.int .i64 l[k].code) ∧ w'.cell? ⟨b, k * 3 + 1, none⟩ = some (.int .i64 l[k].n) ∧ w'.cell? ⟨b, k * 3 + 2, none⟩ = some (.string l[k].data) := by
 have hr := Rd.of_own h
 obtain ⟨b, rfl, _, hlt⟩ := own_addr h hn
 obtain ⟨b', o, e, _, hc⟩ := hr.2 hn
 cases e
 refine ⟨b, rfl, hlt, fun k hk => ?_⟩
 obtain ⟨x0, x1, x2⟩ := ansCells_at l k hk
 have y0 := hc _ _ x0
 have y1 := hc _ _ x1
 have y2 := hc _ _ x2
 rw [Nat.zero_add] at y0 y1 y2
 exact ⟨y0, y1, y2⟩
end Go.Proofs.YtdjamdbamkhblacDoor
namespace Go.Proofs.YtdjamdbamkhblacDoor
open Go.RowKit
set_option linter.unusedVariables false
set_option linter.unusedSimpArgs false
theorem info_Akt : (Tryd.prog.info? 26).map (fun i => (i.zero, i.size, i.bytes)) = some (some (.agg #[.int .i64 0, .int .i64 0, .int .i64 0, .int .i64 0, .string ⟨#[]⟩, .string ⟨#[]⟩]), 6, 64) := by kernel_rfl
theorem RdA.rd {w : World} {B : Nat} {A : Option Addr} {l : List Akt} (h : RdA w B A l) : Rd w B 6 A l.length (aktCells l) :=
 ⟨aktCells_len l, fun hn => by
   obtain ⟨b, o, e, hb, hc⟩ := h hn
   refine ⟨b, o, e, hb, fun j u hu => ?_⟩
   have hj : j < l.length * 6 := by rw [← aktCells_len]; exact (List.getElem?_eq_some_iff.1 hu).1
   have hm : ∃ q, q < l.length ∧ (j = q * 6 ∨ j = q * 6 + 1 ∨ j = q * 6 + 2 ∨ j = q * 6 + 3 ∨ j = q * 6 + 4 ∨ j = q * 6 + 5) := ⟨j / 6, by omega, by omega⟩
   obtain ⟨q, hq, hm⟩ := hm
   have f := fun j hj => flat_at (fun x : Akt => [Value.int .i64 x.kind, .int .i64 x.p, .int .i64 x.n, .int .i64 x.m, .string x.name, .string x.data]) 6 (fun _ => rfl) l q hq j hj
   obtain ⟨c0, c1, c2, c3, c4, c5⟩ := hc q hq
   rcases hm with h | h | h | h | h | h <;> subst h
   ·have := (f 0 (by omega)).symm.trans hu; cases this; exact c0
   ·have := (f 1 (by omega)).symm.trans hu; cases this; exact c1
   ·have := (f 2 (by omega)).symm.trans hu; cases this; exact c2
   ·have := (f 3 (by omega)).symm.trans hu; cases this; exact c3
   ·have := (f 4 (by omega)).symm.trans hu; cases this; exact c4
   ·have := (f 5 (by omega)).symm.trans hu; cases this; exact c5⟩
structure Sls (w : World) (B b : Nat) (ls : List (Option Addr × Nat × List Akt)) : Prop where
 lt : b < B
 cell : ∀ q (hq : q < ls.length), w.cell? ⟨b, q, none⟩ = some (.slice ls[q].1 ls[q].2.2.length ls[q].2.1)
 rd : ∀ q (hq : q < ls.length), RdA w B ls[q].1 ls[q].2.2
theorem Sls.below {w w' : World} {B b : Nat} {ls : List (Option Addr × Nat × List Akt)} (h : Sls w B b ls) (hb : Below B w w') : Sls w' B b ls :=
 ⟨h.lt, fun q hq => (hb.cell h.lt).trans (h.cell q hq), fun q hq => (h.rd q hq).below hb⟩
def RanPost (w : World) (r : Krn × List Ans) (e : Ending) (w' : World) : Prop :=
 ∃ (A : Option Addr) (c : Nat) (a : KA), e = .returned (.tuple #[.slice A r.2.length c, .agg (a.cells r.1), .bool true]) ∧ w'.ownsRow w.heap.size 41 3 (.slice A r.2.length c) r.2.length (ansCells r.2) ∧ (∀ W : World, Stp w' W → KrnAt W W.heap.size a r.1) ∧ a.caps r.1 ∧ Below w.heap.size w w'
theorem RanPost.fin {w w' : World} {k : Krn} {la : List Ans} {A : Option Addr} {c N : Nat} {a : KA} (hO : w'.ownsRow N 41 3 (.slice A la.length c) la.length (ansCells la)) (hN : w.heap.size < N) (hNw : N ≤ w'.heap.size) (hK : ∀ W : World, Stp w' W → KrnAt W W.heap.size a k) (hc : a.caps k) (hb : Below w.heap.size w w') (rs : Blk w' w.heap.size 36 #[.slice none 0 0, .slice none 0 0, .slice none 0 0, .slice none 0 0, .slice none 0 0])
  {W' : World} (hW : W' = (lay5 w' w.heap.size (.slice a.a0 k.mods.length a.c0) (.slice a.a1 k.mem.length a.c1) (.slice a.a2 k.nodes.length a.c2) (.slice a.a3 k.pipes.length a.c3) (.slice a.a4 k.procs.length a.c4)).drew) :
  RanPost w (k, la) (.returned (.tuple #[.slice A la.length c, .agg #[.slice a.a0 k.mods.length a.c0, .slice a.a1 k.mem.length a.c1, .slice a.a2 k.nodes.length a.c2, .slice a.a3 k.pipes.length a.c3, .slice a.a4 k.procs.length a.c4], .bool true])) W' := by
 have g := lay5_grown w' w.heap.size (.slice a.a0 k.mods.length a.c0) (.slice a.a1 k.mem.length a.c1) (.slice a.a2 k.nodes.length a.c2) (.slice a.a3 k.pipes.length a.c3) (.slice a.a4 k.procs.length a.c4)
 obtain ⟨WL, hWL⟩ : ∃ WL, WL = lay5 w' w.heap.size (.slice a.a0 k.mods.length a.c0) (.slice a.a1 k.mem.length a.c1) (.slice a.a2 k.nodes.length a.c2) (.slice a.a3 k.pipes.length a.c3) (.slice a.a4 k.procs.length a.c4) := ⟨_, rfl⟩
 rw [← hWL] at g hW
 have ht : Tch 36 w' WL := ⟨g.os, g.tape, g.output, g.size, fun q hq hne => g.block q hq fun e => by
  injection e with e
  subst e
  exact hne _ _ rs⟩
 have hb1 : Below w.heap.size w' WL := ⟨g.os, g.tape, g.output, g.size, fun q hq => g.block q (by have := hb.size; omega) (fun e => by injection e with e; omega)⟩
 have hd := Below.drewN' (Below.refl WL.heap.size WL) 1
 have hsz : w.heap.size ≤ WL.heap.size := Nat.le_trans hb.size g.size
 rw [hW]
 exact ⟨A, c, a, rfl, own_base (own_below (own_tch hO ht (by decide)) hd) (by omega), fun X hS => hK X ((((Stp.refl _).krn ht).trans (Stp.of_below hd)).trans hS), hc, (hb.trans hb1).trans (hd.mono hsz)⟩
end Go.Proofs.YtdjamdbamkhblacDoor
namespace Go.Proofs.YtdjamdbamkhblacDoor
open Go.RowKit
structure Like (k h : Krn) : Prop where
 mods : h.mods = k.mods
 nodes : h.nodes = k.nodes
 pipes : h.pipes = k.pipes
 procs : h.procs = k.procs
 len : h.mem.length = k.mem.length
 mem : ∀ j, 64 ≤ j → h.mem.getD j 0 = k.mem.getD j 0
theorem Like.refl (k : Krn) : Like k k := ⟨rfl, rfl, rfl, rfl, rfl, fun _ _ => rfl⟩
theorem Like.withMem {k h : Krn} (hk : Like k h) {m m' : List Int} (hl : m'.length = m.length) (hm : ∀ j, 64 ≤ j → m'.getD j 0 = m.getD j 0) : Like { k with mem := m } { h with mem := m' } :=
 ⟨hk.mods, hk.nodes, hk.pipes, hk.procs, hl, hm⟩
theorem Like.symm {k h : Krn} (hl : Like k h) : Like h k := ⟨hl.mods.symm, hl.nodes.symm, hl.pipes.symm, hl.procs.symm, hl.len.symm, fun j hj => (hl.mem j hj).symm⟩
theorem Like.trans {a b c : Krn} (h : Like a b) (h' : Like b c) : Like a c := ⟨h'.mods.trans h.mods, h'.nodes.trans h.nodes, h'.pipes.trans h.pipes, h'.procs.trans h.procs, h'.len.trans h.len, fun j hj => (h'.mem j hj).trans (h.mem j hj)⟩
end Go.Proofs.YtdjamdbamkhblacDoor
namespace Go.Proofs.YtdjamdbamkhblacDoor
open Go.RowKit
def oneS : ByteArray := ⟨#[111, 110, 101]⟩
structure Dev0 (k : Krn) : Prop where
 live : (k.procs.getD 0 default).live = true
 opn : (k.procs.getD 0 default).ends.getD 0 default = ⟨1, 0, 0⟩
 kind : (k.nodes.getD 0 default).kind = 2
 unit : (k.nodes.getD 0 default).unit = 0
 name : (k.nodes.getD 0 default).name = oneS
theorem setEnd_other (k : Krn) (p i : Nat) (x : Opn) (h : ¬ (p = 0 ∧ i = 0)) : ((setEnd k p i x).procs.getD 0 default).ends.getD 0 default = (k.procs.getD 0 default).ends.getD 0 default ∧ ((setEnd k p i x).procs.getD 0 default).live = (k.procs.getD 0 default).live := by
 unfold setEnd
 simp only [List.getD_eq_getElem?_getD, List.getElem?_set]
 by_cases hp : p = 0
 ·subst hp
  have hi : i ≠ 0 := fun e => h ⟨rfl, e⟩
  by_cases h0 : 0 < k.procs.length
  ·simp [h0, hi]
  ·simp at h0
   simp [h0]
 ·simp [hp]
theorem Dev0.of_procs {k k' : Krn} (h : Dev0 k) (h1 : (k'.procs.getD 0 default).ends.getD 0 default = (k.procs.getD 0 default).ends.getD 0 default) (h2 : (k'.procs.getD 0 default).live = (k.procs.getD 0 default).live) (h3 : k'.nodes.getD 0 default = k.nodes.getD 0 default) : Dev0 k' :=
 ⟨h2.trans h.live, h1.trans h.opn, by rw [h3]; exact h.kind, by rw [h3]; exact h.unit, by rw [h3]; exact h.name⟩
theorem Dev0.setEnd {k : Krn} (h : Dev0 k) {p i : Nat} {x : Opn} (hn : ¬ (p = 0 ∧ i = 0)) : Dev0 (setEnd k p i x) :=
 h.of_procs (setEnd_other k p i x hn).1 (setEnd_other k p i x hn).2 rfl
theorem Dev0.tidy {k : Krn} (h : Dev0 k) : Dev0 (tidyK k) := by
 refine h.of_procs rfl rfl ?_
 unfold tidyK
 simp only [List.getD_eq_getElem?_getD, mapI_at, Nat.zero_add]
 cases hk : k.nodes[0]? with
 | none => rfl
 | some x =>
   have hn := h.name
   rw [List.getD_eq_getElem?_getD, hk, Option.getD_some] at hn
   simp only [Option.map_some, Option.getD_some]
   unfold tidyN
   rw [hn]
   rfl
theorem Dev0.setNod {k : Krn} (h : Dev0 k) {i : Nat} {x : Nod} (hi : i ≠ 0) : Dev0 (setNod k i x) := by
 refine h.of_procs rfl rfl ?_
 rw [setNod_getD, if_neg (fun e => hi e.1)]
theorem Dev0.mem {k : Krn} (h : Dev0 k) {m : List Int} : Dev0 { k with mem := m } := ⟨h.live, h.opn, h.kind, h.unit, h.name⟩
theorem Dev0.procs_set {k : Krn} (h : Dev0 k) {i : Nat} {p : Prc} (hi : i ≠ 0) : Dev0 { k with procs := k.procs.set i p } := by
 refine h.of_procs ?_ ?_ rfl <;> simp [List.getD_eq_getElem?_getD, hi]
end Go.Proofs.YtdjamdbamkhblacDoor
namespace Go.Proofs.YtdjamdbamkhblacDoor
open Go.RowKit
def NamesFrom (s : ByteArray) (k k' : Krn) : Prop := k'.mods = k.mods ∧ ∀ x ∈ k'.nodes, x.name = noS ∨ x.name = s ∨ ∃ y ∈ k.nodes, y.name = x.name
theorem NamesFrom.refl (s : ByteArray) (k : Krn) : NamesFrom s k k := ⟨rfl, fun x hx => .inr (.inr ⟨x, hx, rfl⟩)⟩
theorem NamesFrom.same {s : ByteArray} {k k' : Krn} (h1 : k'.mods = k.mods) (h2 : k'.nodes = k.nodes) : NamesFrom s k k' := ⟨h1, fun x hx => .inr (.inr ⟨x, by rw [← h2]; exact hx, rfl⟩)⟩
theorem NamesFrom.trans {s : ByteArray} {k k' k'' : Krn} (h : NamesFrom s k k') (h' : NamesFrom s k' k'') : NamesFrom s k k'' :=
 ⟨h'.1.trans h.1, fun x hx => by
   rcases h'.2 x hx with e | e | ⟨y, hy, e⟩
   ·exact .inl e
   ·exact .inr (.inl e)
   ·rw [← e]; exact h.2 y hy⟩
theorem NamesFrom.tidy (s : ByteArray) (k : Krn) : NamesFrom s k (tidyK k) := ⟨rfl, fun x hx => by
 obtain ⟨i, hi, rfl⟩ := List.mem_iff_getElem.1 hx
 have hi' : i < k.nodes.length := by
  have : (tidyK k).nodes.length = k.nodes.length := mapI_length _ _ _
  omega
 have e : (tidyK k).nodes[i] = tidyN k.procs i k.nodes[i] := mapI_get _ _ _ hi
 rw [e]
 unfold tidyN
 split
 ·exact .inl rfl
 ·exact .inr (.inr ⟨_, List.getElem_mem hi', rfl⟩)⟩
theorem NamesFrom.setNod {s : ByteArray} {k : Krn} {i : Nat} {x : Nod} (h : x.name = noS ∨ x.name = s ∨ ∃ y ∈ k.nodes, y.name = x.name) : NamesFrom s k (setNod k i x) := ⟨rfl, fun y hy => by
 rcases List.mem_or_eq_of_mem_set hy with h1 | h1
 ·exact .inr (.inr ⟨y, h1, rfl⟩)
 ·subst h1; exact h⟩
theorem getD_name (k : Krn) (i : Nat) : (k.nodes.getD i default).name = noS ∨ ∃ y ∈ k.nodes, y.name = (k.nodes.getD i default).name := by
 by_cases hi : i < k.nodes.length
 ·rw [getD_eq hi]; exact .inr ⟨_, List.getElem_mem hi, rfl⟩
 ·rw [List.getD_eq_getElem?_getD, List.getElem?_eq_none (by omega)]; exact .inl rfl
theorem askK_from {s : ByteArray} {k k' : Krn} {u n v : Nat} (h : askK k u n = some (v, k')) : NamesFrom s k k' := by
 unfold askK at h
 split at h
 split at h
 ·cases h; exact NamesFrom.same rfl rfl
 ·cases h
theorem askAll_from {s : ByteArray} : ∀ (l : List UInt8) (k : Krn) (u : Nat), NamesFrom s k (askAll k u l).2
 | [], k, u => NamesFrom.refl s k
 | c :: r, k, u => by
   unfold askAll
   cases h : askK k u c.toNat with
   | none => exact NamesFrom.refl s k
   | some x =>
     obtain ⟨v, k'⟩ := x
     exact (askK_from h).trans (askAll_from r k' u)
theorem do_names (k : Krn) (a : Akt) (ha : a.kind ≠ 1) : NamesFrom a.name k (doK k a).1 := by
 have same : ∀ {k' : Krn}, k'.mods = k.mods → k'.nodes = k.nodes → NamesFrom a.name k k' := fun h1 h2 => NamesFrom.same h1 h2
 have mk : ∀ x : Nod, NamesFrom a.name k (makeK k a.name x).1 := fun x => by
  unfold makeK
  split
  case isFalse => exact NamesFrom.refl _ _
  split
  case isTrue => exact NamesFrom.refl _ _
  split
  case isTrue => exact NamesFrom.refl _ _
  split
  case isTrue => exact NamesFrom.refl _ _
  exact NamesFrom.setNod (.inr (.inl rfl))
 unfold doK
 rw [if_neg ha]
 split
 ·exact mk _
 split
 ·exact mk _
 split
 ·unfold unlinkK
  split
  ·exact NamesFrom.refl _ _
  ·exact (NamesFrom.setNod (.inl rfl)).trans (NamesFrom.tidy _ _)
 split
 case isFalse => exact NamesFrom.refl _ _
 unfold byK
 split
 ·unfold openK
  split
  case isFalse => exact NamesFrom.refl _ _
  split
  case isTrue => exact NamesFrom.refl _ _
  split
  case isTrue => exact NamesFrom.refl _ _
  exact same rfl rfl
 split
 ·unfold pipeK
  simp only
  split
  ·exact NamesFrom.refl _ _
  split
  ·exact NamesFrom.refl _ _
  ·exact same rfl rfl
 split
 ·unfold forkK
  split
  ·exact NamesFrom.refl _ _
  ·exact same rfl rfl
 split
 ·unfold exitK
  exact NamesFrom.trans (k' := { k with procs := k.procs.set a.p.toNat ⟨false, List.replicate 6 default⟩ }) (same rfl rfl) (NamesFrom.tidy _ _)
 simp only
 split
 ·exact NamesFrom.refl _ _
 split
 ·exact NamesFrom.trans (k' := setEnd k a.p.toNat a.n.toNat default) (same rfl rfl) (NamesFrom.tidy _ _)
 split
 ·exact NamesFrom.refl _ _
 split
 ·unfold readK
  simp only
  split
  ·exact NamesFrom.refl _ _
  split
  ·split
   ·exact NamesFrom.refl _ _
   ·exact same rfl rfl
  split
  ·cases h : askK k (k.nodes.getD ((k.procs.getD a.p.toNat default).ends.getD a.n.toNat default).node.toNat default).unit.toNat 256 with
   | none => exact NamesFrom.refl _ _
   | some x =>
     obtain ⟨v, k'⟩ := x
     exact askK_from h
  split
  ·exact NamesFrom.refl _ _
  ·exact same rfl rfl
 ·unfold writeK
  simp only
  split
  ·exact NamesFrom.refl _ _
  split
  ·split
   ·exact NamesFrom.refl _ _
   split
   ·exact NamesFrom.refl _ _
   ·exact same rfl rfl
  split
  ·split
   ·exact askAll_from _ _ _
   ·exact askAll_from _ _ _
  split
  ·exact NamesFrom.refl _ _
  ·refine NamesFrom.trans (NamesFrom.setNod (i := ((k.procs.getD a.p.toNat default).ends.getD a.n.toNat default).node.toNat) (x := { (k.nodes.getD ((k.procs.getD a.p.toNat default).ends.getD a.n.toNat default).node.toNat default) with data := _ }) ?_) (NamesFrom.same rfl rfl)
   rcases getD_name k ((k.procs.getD a.p.toNat default).ends.getD a.n.toNat default).node.toNat with e | e
   ·exact .inl e
   ·exact .inr (.inr e)
def Bare (ns : List ByteArray) (k : Krn) : Prop := k.mods = [] ∧ ∀ x ∈ k.nodes, x.name = noS ∨ x.name ∈ ns
theorem Bare.next {ns : List ByteArray} {k : Krn} (h : Bare ns k) {a : Akt} (ha : a.kind ≠ 1) (hn : a.name = noS ∨ a.name ∈ ns) : Bare ns (doK k a).1 := by
 obtain ⟨h1, h2⟩ := do_names k a ha
 refine ⟨h1.trans h.1, fun x hx => ?_⟩
 rcases h2 x hx with e | e | ⟨y, hy, e⟩
 ·exact .inl e
 ·rw [e]; exact hn
 ·rw [← e]; exact h.2 y hy
theorem Bare.runs {ns : List ByteArray} : ∀ (l : List Akt) {k : Krn}, Bare ns k → (∀ a ∈ l, a.kind ≠ 1 ∧ (a.name = noS ∨ a.name ∈ ns)) → Bare ns (runK k l).1
 | [], _, h, _ => h
 | a :: r, k, h, hl => by
   rw [runK]
   have ha := hl a (by simp)
   split
   ·exact Bare.runs r (h.next ha.1 ha.2) (fun b hb => hl b (by simp [hb]))
   ·exact Bare.runs r h (fun b hb => hl b (by simp [hb]))
def gS : ByteArray := ⟨#[103]⟩
def devS : ByteArray := ⟨#[100, 101, 118]⟩
end Go.Proofs.YtdjamdbamkhblacDoor
namespace Go.Proofs.YtdjamdbamkhblacDoor
open Go.RowKit
instance : DecidableEq Akt := fun a b =>
 if h : a.kind = b.kind ∧ a.p = b.p ∧ a.n = b.n ∧ a.m = b.m ∧ a.name = b.name ∧ a.data = b.data then .isTrue (by cases a; cases b; simp_all)
 else .isFalse (fun e => h (by subst e; exact ⟨rfl, rfl, rfl, rfl, rfl, rfl⟩))
def dataTo (b : Int) (k : Nat) : List UInt8 := (List.range k).map fun i => u8 (97 + (i + pick b 26) % 26)
def dataS (a b : Int) : ByteArray := ⟨(dataTo b (1 + pick a 30)).toArray⟩
theorem dataS_size (a b : Int) : (dataS a b).size = 1 + pick a 30 := by simp [dataS, dataTo, ByteArray.size]
theorem dataS_le (a b : Int) : 1 ≤ (dataS a b).size ∧ (dataS a b).size ≤ 30 := by
 rw [dataS_size]
 have := pick_lt a (m := 30) (by omega)
 omega
def nameA (c : Int) : ByteArray := if pick c 3 = 0 then fS else if pick c 3 = 1 then gS else devS
theorem nameA_mem (c : Int) : nameA c ∈ [fS, gS, devS] := by
 unfold nameA
 split
 ·simp
 split <;> simp
def actI (r : Ins) : Akt :=
 if pick r.op 30 < 2 then ⟨2, 0, 0, 0, nameA r.c, noS⟩
 else if pick r.op 30 = 2 then ⟨4, 0, 0, 0, nameA r.c, noS⟩
 else if pick r.op 30 < 8 then ⟨5, (pick r.a 3 : Nat), 0, 0, nameA r.c, noS⟩
 else if pick r.op 30 < 10 then ⟨6, (pick r.a 3 : Nat), (pick r.b 6 : Nat), 0, noS, noS⟩
 else if pick r.op 30 < 17 then ⟨7, (pick r.a 3 : Nat), (pick r.b 6 : Nat), (1 + pick r.c 30 : Nat), noS, noS⟩
 else if pick r.op 30 < 24 then ⟨8, (pick r.a 3 : Nat), (pick r.b 6 : Nat), 0, noS, dataS r.c r.b⟩
 else if pick r.op 30 < 26 then ⟨9, (pick r.a 3 : Nat), 0, 0, noS, noS⟩
 else if pick r.op 30 < 29 then ⟨10, (pick r.a 3 : Nat), 0, 0, noS, noS⟩
 else ⟨11, (1 + pick r.a 3 : Nat), 0, 0, noS, noS⟩
def actsL (l : List Ins) (most : Nat) : List Akt := (l.take most).map actI
theorem actsL_length (l : List Ins) (most : Nat) : (actsL l most).length ≤ most := by simp [actsL]; omega
structure ActOk (a : Akt) : Prop where
 k2 : 2 ≤ a.kind
 k11 : a.kind ≤ 11
 name : a.name = noS ∨ a.name ∈ [fS, gS, devS]
 exit : a.kind = 11 → a.p ≠ 0
 data : a.data.size ≤ 30
theorem actI_ok (r : Ins) : ActOk (actI r) := by
 have hn := nameA_mem r.c
 have hd := (dataS_le r.c r.b).2
 have n0 : noS.size ≤ 30 := by decide
 unfold actI
 repeat' split
 all_goals refine ⟨by simp, by simp, ?_, ?_, ?_⟩
 all_goals first
  | exact .inr hn
  | exact .inl rfl
  | exact n0
  | exact hd
  | (intro h; simp at h; done)
  | (intro _; show ((1 + pick r.a 3 : Nat) : Int) ≠ 0; omega)
theorem actsL_ok (l : List Ins) (most : Nat) : ∀ a ∈ actsL l most, ActOk a := fun a ha => by
 obtain ⟨r, _, rfl⟩ := List.mem_map.1 ha
 exact actI_ok r
end Go.Proofs.YtdjamdbamkhblacDoor
namespace Go.Proofs.YtdjamdbamkhblacDoor
open Go.RowKit
set_option linter.unusedVariables false
set_option linter.unusedSimpArgs false
structure DatS (w wr : World) (r : Ins) (n k : Nat) (cs : Array Value) : Prop where
 below : Below w.heap.size w wr
 raw : Blk wr w.heap.size 23 #[.int .i64 r.op, .int .i64 r.a, .int .i64 r.b, .int .i64 r.c]
 blk : Blk wr (w.heap.size + 1) 5 cs
 size : cs.size = n
 known : ∀ j, j < k → cs[j]? = some (.int .u8 ((97 + (j + pick r.b 26) % 26 : Nat) : Int))
theorem DatS.next {w wr : World} {r : Ins} {n k : Nat} {cs : Array Value} (h : DatS w wr r n k cs) (hk : k < n) : DatS w (wr.setCell ⟨w.heap.size + 1, k, none⟩ (.int .u8 ((97 + (k + pick r.b 26) % 26 : Nat) : Int))) r n (k + 1) (cs.setIfInBounds k (.int .u8 ((97 + (k + pick r.b 26) % 26 : Nat) : Int))) := by
 refine ⟨h.below.setCell (p := ⟨w.heap.size + 1, k, none⟩) (by simp) _, h.raw.far (by simp) _, h.blk.set_ k _, by simp [h.size], fun j hj => ?_⟩
 rw [Array.getElem?_setIfInBounds]
 by_cases e : k = j
 ·subst e
  simp [h.size, hk]
 ·rw [if_neg e]
  exact h.known j (by omega)
theorem DatS.start (w : World) (r : Ins) (n : Nat) : DatS w ((w.alloc (.cells #[.int .i64 r.op, .int .i64 r.a, .int .i64 r.b, .int .i64 r.c] 23)).alloc (.cells (madeCells #[.int .u8 0] n) 5)) r n 0 (madeCells #[.int .u8 0] n) := by
 have h1 := (Below.refl w.heap.size w).alloc (Nat.le_refl _) (.cells #[.int .i64 r.op, .int .i64 r.a, .int .i64 r.b, .int .i64 r.c] 23)
 exact ⟨h1.alloc h1.size _, (Blk.new w _ _).alloc _, Blk.new' (by simp), by rw [size_madeCells], fun j hj => by omega⟩
theorem dataTo_length (b : Int) (k : Nat) : (dataTo b k).length = k := by simp [dataTo]
theorem DatS.row {w wr : World} {r : Ins} {n : Nat} {cs : Array Value} (h : DatS w wr r n n cs) (hn : n ≤ maxLen) : ByRow wr w.heap.size (w.heap.size + 1) n (dataTo r.b n) := by
 have hl := dataTo_length r.b n
 refine ⟨by omega, by omega, hn, fun j hj => ?_, fun j hj => ?_, fun j hj => h.blk.frozen j, ⟨cs, (0, 0), h.blk⟩⟩
 ·rw [h.blk.cell, h.known j (by omega)]
  congr 2
  simp only [dataTo, List.getElem_map, List.getElem_range]
  rw [u8_toNat]
  omega
 ·rw [h.blk.cell, Array.getElem?_eq_getElem (by rw [h.size]; exact hj)]
  rfl
set_option maxRecDepth 100000 in
set_option maxHeartbeats 4000000 in
theorem KData_any (r : Ins) (hr : r.wf) (w : World) :
  Calls Tryd.prog 12 #[.agg #[.int .i64 r.op, .int .i64 r.a, .int .i64 r.b, .int .i64 r.c]] w fun e w' => e = .returned (.string (dataS r.a r.b)) ∧ Below w.heap.size w w' := by
 obtain ⟨_, hra, hrb, _⟩ := hr
 obtain ⟨p, hp⟩ : ∃ p, p = pick r.a 30 := ⟨_, rfl⟩
 have hp30 : p < 30 := by rw [hp]; exact pick_lt _ (by omega)
 have CA : Hid (∀ W : World, Calls Tryd.prog 13 #[.int .i64 r.a, .int .i64 30] W fun e w' => e = .returned (.int .i64 (p : Nat)) ∧ W = w') := fun W => by rw [hp]; exact picked_any r.a 30 W hra.1 hra.2 (by omega) (by omega)
 obtain ⟨q, hq⟩ : ∃ q, q = pick r.b 26 := ⟨_, rfl⟩
 have hq26 : q < 26 := by rw [hq]; exact pick_lt _ (by omega)
 have CB : Hid (∀ W : World, Calls Tryd.prog 13 #[.int .i64 r.b, .int .i64 26] W fun e w' => e = .returned (.int .i64 (q : Nat)) ∧ W = w') := fun W => by rw [hq]; exact picked_any r.b 26 W hrb.1 hrb.2 (by omega) (by omega)
 have HV : Hid (dataS r.a r.b = ⟨(dataTo r.b (1 + p)).toArray⟩) := by show _ = _; rw [hp]; rfl
 have HQ := Lib.hid hq
 have hmk : ∀ w : World, (Instr.makeSlice 84 (.int .i64 (1 + (p : Int))) (.int .i64 (1 + (p : Int)))).run Tryd.prog w = .ok (.slice (some ⟨w.heap.size, 0, none⟩) (1 + p) (1 + p)) (w.alloc (.cells (madeCells #[.int .u8 0] (1 + p)) 5)) := fun w => by
  have e := mk_lit w 84 5 _ 1 1 (1 + p) Tryd.underlying84 binfo_u8 (by omega) (by omega)
  have ec : ((1 + p : Nat) : Int) = 1 + (p : Int) := by omega
  rw [Nat.mul_one, ec] at e
  exact e
 have hS := DatS.start w r (1 + p)
 clear hp hq hra hrb
 go_enter Tryd.func12, Tryd.ntmps12
 go_wp2_with (first | (go_at_call 13; (with_reducible refine (CA.out _).mono ?_); rintro e w' ⟨rfl, rfl⟩))
 go_loopw [12] (fun i wr => Cnt (1 + p) i fun k => ∃ cs, DatS w wr r (1 + p) k cs) (fun i _ => 1 + p - (intOf i).toNat)
 case atStart => exact ⟨0, Nat.zero_le _, rfl, _, hS⟩
 case round =>
  clear hS
  obtain ⟨k, hk', rfl, cs, hS⟩ := hrel
  by_cases hlt : k < 1 + p
  ·have hkp : (k : Int) < 1 + (p : Int) := by omega
   obtain ⟨x0, hx0⟩ : ∃ x0, cs[k]? = some x0 := ⟨_, Array.getElem?_eq_getElem (by rw [hS.size]; exact hlt)⟩
   have c0 := (hS.blk.cell k).trans hx0
   have f0 := hS.blk.frozen k
   have bl := hS.blk.lt
   have d2 := hS.raw.cell 2
   have dl := hS.raw.lt
   simp at d2
   have HN := Lib.hid (hS.next hlt)
   have HK := Lib.hid hkp
   clear hS hx0
   go_wp2_with (first | (go_at_call 13; (with_reducible refine (CB.out _).mono ?_); rintro e w' ⟨rfl, rfl⟩))
   have e1 : 97 + ((k : Int) + (q : Int)) % 26 = ((97 + (k + pick r.b 26) % 26 : Nat) : Int) := by rw [← HQ.out]; omega
   exact ⟨⟨k + 1, by omega, by go_num, _, by rw [e1]; exact HN.out⟩, by simp [intOf]; omega⟩
  ·obtain rfl : k = 1 + p := by omega
   have HRW := hS.row (by unfold maxLen; omega)
   have hcv := conv_row (cap := 1 + p) HRW
   rw [dataTo_length] at hcv
   have HB := Lib.hid hS.below
   clear hS HRW
   go_wp2
   go_ret
   rw [HV.out]
   exact ⟨rfl, HB.out⟩
end Go.Proofs.YtdjamdbamkhblacDoor
namespace Go.Proofs.YtdjamdbamkhblacDoor
open Go.RowKit
set_option linter.unusedVariables false
set_option linter.unusedSimpArgs false
structure RowA (w W : World) (A : Option Addr) (c : Nat) (l : List Akt) : Prop where
 own : W.ownsRow w.heap.size 26 6 (.slice A l.length c) l.length (aktCells l)
 be : Below w.heap.size w W
theorem RowA.below {w W W' : World} {A : Option Addr} {c : Nat} {l : List Akt} (h : RowA w W A c l) (hb : Below W.heap.size W W') : RowA w W' A c l := ⟨own_below h.own hb, h.be.trans (hb.mono h.be.size)⟩
theorem RowA.lit {w W : World} (hb : Below w.heap.size w W) {l : List Akt} {cs : Array Value} (hcs : cs = (aktCells l).toArray) (hl : l.length ≤ 100000) : RowA w (W.alloc (.cells cs 26)) (some ⟨W.heap.size, 0, none⟩) l.length l := by
 have hs : cs.size = l.length * 6 := by rw [hcs]; simp [aktCells_len]
 have h := World.ownsRow_lit (base := w.heap.size) (e := 26) (size := 6) W cs l.length hb.size (by simp [maxLen]; omega) hs
 rw [hcs] at h
 rw [hcs]
 exact ⟨h, hb.alloc hb.size _⟩
theorem wp_app {w W : World} {ops : Array Oper} {rest : List Oper} {o : Oper} {a : Act} {Q : Exit → Act → World → Prop} {A : Option Addr} {c : Nat} {l : List Akt} (x : List Akt) {cs : Array Value} {m c2 : Nat} (hW : RowA w W A c l) (hgd : o.guard = none) (s y : Operand)
  (ho : o.op = .call { callee := .builtin .append, args := #[s, y], argTypes := #[27, 27] }) (hs : a.eval s = .slice A l.length c) (hy : a.eval y = .slice (some ⟨W.heap.size, 0, none⟩) m c2) (hm : m = x.length) (hcs : cs = (aktCells x).toArray) (hlen : l.length + x.length ≤ 100000)
  (h : ∀ A' c' w', RowA w w' A' c' (l ++ x) → wpList Tryd.prog ops Q rest (a.put o.dst (.slice A' (l ++ x).length c')) w') : wpList Tryd.prog ops Q (o :: rest) a (W.alloc (.cells cs 26)) := by
 obtain ⟨i0, hi0, hz0, hz1, hz2⟩ := info_parts info_Akt
 have hba := (Below.refl W.heap.size W).alloc (Nat.le_refl _) (.cells cs 26)
 have hW2 := hW.below hba
 have hr := (RdA.blk (Blk.new W 26 cs) hcs).rd
 rw [hm] at hy
 refine wpList_append_rd _ hgd s y _ ho w.heap.size 26 i0 _ 6 64 Tryd.underlying27 hi0 hz0 hz1 hz2 rfl (by omega) (.slice A l.length c) l.length (aktCells l) hs hW2.own _ _ x.length c2 (aktCells x) hy hr (akt_one _) (by simp [maxLen]; omega) (by omega) hW2.be.size ?_
 intro v1 w3 hv1 hg1 _
 obtain ⟨A2, k2, rfl⟩ := own_slice hv1
 rw [← List.length_append]
 refine h A2 k2 w3 ⟨?_, hW2.be.grown hg1 hW2.be.size fun q hq => (hW2.own.lt q hq).1⟩
 rw [List.length_append, aktCells_app]
 exact hv1
theorem Sls.one {w W : World} {A : Option Addr} {c : Nat} {l : List Akt} {t : TypeId} (h : RowA w W A c l) : Sls (W.alloc (.cells #[.slice A l.length c] t)) (W.alloc (.cells #[.slice A l.length c] t)).heap.size W.heap.size [(A, c, l)] := by
 have hba := (Below.refl W.heap.size W).alloc (Nat.le_refl _) (.cells #[.slice A l.length c] t)
 refine ⟨by simp, fun q hq => ?_, fun q hq => ?_⟩
 ·have : q = 0 := by simp at hq; omega
  subst this
  exact (Blk.new W t #[.slice A l.length c]).cell 0
 ·have : q = 0 := by simp at hq; omega
  subst this
  exact RdA.of ((Rd.of_own (h.below hba).own))
end Go.Proofs.YtdjamdbamkhblacDoor
namespace Go.Proofs.YtdjamdbamkhblacDoor
open Go.RowKit
set_option linter.unusedVariables false
set_option linter.unusedSimpArgs false
def insM (l : List Ins) (r : Ins) (nm : ByteArray) : Mod := ⟨nm, madeOf (plainL l), memTo r 20⟩
def insL (l : List Ins) (r : Ins) (nm : ByteArray) (n : Int) : List Akt := [⟨1, 0, 0, 0, noS, (encR (insM l r nm)).1⟩, ⟨3, 0, n, 0, nm, noS⟩]
theorem ins_make (l : List Ins) : makeOf (plainL l) = (madeOf (plainL l), 0) := by
 have h1 := plainL_ok l
 have h2 := plainL_plainB l
 have h3 := plainL_made l
 have hc : check (plainL l) = 0 := (check_zero_iff _).2 ⟨by omega, h1.2.1⟩
 unfold makeOf
 rw [if_pos hc, if_pos (by unfold plainB; simp [h2]), if_neg (by omega)]
theorem ins_flat {α : Type} (f : α → List UInt8) (s : Nat) (hf : ∀ x, (f x).length = s) : ∀ l : List α, (l.flatMap f).length = s * l.length
 | [] => rfl
 | x :: r => by rw [List.flatMap_cons, List.length_append, hf, ins_flat f s hf r, List.length_cons, Nat.mul_succ]; omega
theorem ins_size (l : List Ins) (r : Ins) (nm : ByteArray) (hn : nm.size ≤ 1000) : (encR (insM l r nm)).1.size ≤ 2000 := by
 have h3 := plainL_made l
 have hz : nm.data.toList.length = nm.size := by simp
 have e : (encB (insM l r nm)).length = 4 + (1 + nm.size + 1 + 4 * (madeOf (plainL l)).length + 1 + 2 * (memTo r 20).length) := by
  unfold encB bodyB insM
  simp only [List.length_append, sealL_length, ins_flat insB 4 (fun _ => rfl), ins_flat wordB 2 (fun _ => rfl), List.length_cons, List.length_nil, hz]
 rw [memTo_length] at e
 unfold encR
 split
 ·rw [ba_size]
  omega
 ·show 0 ≤ 2000
  omega
theorem insL_ok (l : List Ins) (r : Ins) (nm : ByteArray) (n : Int) (hn : nm.size ≤ 1000) : ∀ x ∈ insL l r nm n, x.name.size ≤ maxLen ∧ x.data.size ≤ maxLen := fun x hx => by
 have h := ins_size l r nm hn
 have h0 : noS.size ≤ maxLen := by decide
 simp only [insL, List.mem_cons, List.not_mem_nil, or_false] at hx
 rcases hx with rfl | rfl
 ·exact ⟨h0, by unfold maxLen; show (encR (insM l r nm)).1.size ≤ _; omega⟩
 ·exact ⟨by unfold maxLen; show nm.size ≤ _; omega, h0⟩
set_option maxRecDepth 100000 in
set_option maxHeartbeats 4000000 in
theorem Installed_any (A : Option Addr) (c : Nat) (l : List Ins) (r : Ins) (nm : ByteArray) (n : Int) (w : World) (hr : RdI w w.heap.size A l) (hwf : ∀ i ∈ l, i.wf) (hl : l.length ≤ maxLen) (hrw : r.wf) (ht : Tab w) (hn : nm.size ≤ 1000) :
  Calls Tryd.prog 30 #[.slice A l.length c, .agg #[.int .i64 r.op, .int .i64 r.a, .int .i64 r.b, .int .i64 r.c], .string nm, .int .i64 n] w fun e w' => ∃ A' c', e = .returned (.slice A' (insL l r nm n).length c') ∧ RowA w w' A' c' (insL l r nm n) := by
 have hb0 := below_box w (.cells #[.int .i64 r.op, .int .i64 r.a, .int .i64 r.b, .int .i64 r.c] 23)
 have HX := Lib.hid (Blk.new w 23 #[.int .i64 r.op, .int .i64 r.a, .int .i64 r.b, .int .i64 r.c])
 have HR := Lib.hid ((hr.below hb0).more hb0.size)
 have HT := Lib.hid ht
 have HWF := Lib.hid hwf
 have HRW := Lib.hid hrw
 have HB := Lib.hid hb0
 have HM := Lib.hid (ins_make l)
 have HP := Lib.hid (plainL_ok l).2.2.2
 have HQ := Lib.hid (plainL_made l).2.1
 have HQ0 := Lib.hid (show noS.size = 0 from rfl)
 clear hr hwf hrw ht hb0
 go_enter Tryd.func30, Tryd.ntmps30
 go_wp2_with fail
 refine (KPlain_any A c l _ HR.out HWF.out hl).mono ?_
 rintro e w1 ⟨V, rfl, hV, hb1⟩
 obtain ⟨A1, c1, rfl⟩ := own_slice hV
 have HB1 := Lib.hid (HB.out.trans (hb1.mono HB.out.size))
 have HX1 := Lib.hid (HX.out.below hb1 HX.out.lt)
 have HR1 := Lib.hid (RdI.of (Rd.of_own hV))
 clear hV hb1 HB HX HR
 go_wp2_with fail
 refine (Make_any A1 c1 (plainL l) w1 HR1.out (HT.out.below HB1.out) (by unfold maxLen; have := HP.out; omega)).mono ?_
 rintro e w2 ⟨V2, rfl, hV2, hb2⟩
 rw [HM.out] at hV2
 rw [HM.out]
 simp only at hV2
 obtain ⟨A2, c2, rfl⟩ := own_slice hV2
 have HB2 := Lib.hid (HB1.out.trans (hb2.mono HB1.out.size))
 have HX2 := HX1.out.below hb2 HX1.out.lt
 have HV2 := Lib.hid hV2
 have x0 := HX2.cell 0
 have x1 := HX2.cell 1
 have x2 := HX2.cell 2
 have x3 := HX2.cell 3
 have xl := HX2.lt
 simp at x0 x1 x2 x3
 clear hV2 hb2 HB1 HX1 HR1 HX2
 go_wp2_with fail
 refine (KMem_any r HRW.out 20 (by omega) w2).mono ?_
 rintro e w3 ⟨V3, rfl, hV3, hb3⟩
 obtain ⟨A3, c3, e3⟩ : ∃ A3 c3, V3 = .slice A3 (memTo r 20).length c3 := by
  obtain ⟨A3, c3, h⟩ := own_slice hV3
  exact ⟨A3, c3, by rw [memTo_length]; exact h⟩
 subst e3
 have hml : (memTo r 20).length = 20 := memTo_length _ _
 have HB3 := Lib.hid (HB2.out.trans (hb3.mono HB2.out.size))
 have HV3 : Hid (RdN w3 w3.heap.size A3 (memTo r 20)) := by
  refine RdN.of ?_
  have h := Rd.of_own hV3
  rw [hml] at h ⊢
  exact h
 have HC := Lib.hid (Encode_any (insM l r nm) A2 A3 c2 c3 w3 (by show nm.size ≤ maxLen; unfold maxLen; omega) (RdI.of (Rd.of_own (own_below HV2.out hb3))) HV3.out (HT.out.below HB3.out) (by show (madeOf (plainL l)).length ≤ maxLen; unfold maxLen; have := HQ.out; omega) (by show (memTo r 20).length ≤ maxLen; rw [hml]; unfold maxLen; omega))
 clear hV3 hb3 x0 x1 x2 x3 xl HB2 HV2 HV3
 go_wp2_with fail
 refine HC.out.mono ?_
 rintro e w4 ⟨rfl, hb4⟩
 have HB4 := HB3.out.trans (hb4.mono HB3.out.size)
 have HF := RowA.lit HB4 (l := insL l r nm n) (cs := #[.int .i64 1, .int .i64 0, .int .i64 0, .int .i64 0, .string ⟨#[]⟩, .string (encR (insM l r nm)).1, .int .i64 3, .int .i64 0, .int .i64 n, .int .i64 0, .string nm, .string ⟨#[]⟩]) rfl (by show 2 ≤ 100000; omega)
 have HFF := Lib.hid HF
 clear HF HB4 hb4 HC HB3 hml
 obtain ⟨D, hD⟩ : ∃ D, D = (encR (insM l r nm)).1 := ⟨_, rfl⟩
 rw [← hD] at HFF ⊢
 clear hD
 go_wp2
 go_ret
 exact ⟨_, _, rfl, HFF.out⟩
end Go.Proofs.YtdjamdbamkhblacDoor
