/- A kernel that is in order, and what is tidied: plain mathematics. Trusted code keeps to its region, and what it does hangs on its region alone: plain mathematics. What is made of plain code does what the plain code does, as far as it stays in its region: plain mathematics. What a check of code that finds nothing says: plain mathematics. Made code is trusted; what a verification that finds nothing says: plain mathematics. -/
import Derived.Test.YtdjamdbamkhblacDoorG06
import Derived.Test.YtdjamdbamkhblacDoorG05
import Derived.Test.YtdjamdbamkhblacDoorG04
import Derived.Test.YtdjamdbamkhblacDoorG01
namespace Go.Proofs.YtdjamdbamkhblacDoor
open Go.RowKit
theorem anyI_iff {α : Type} (p : Nat → α → Bool) : ∀ (l : List α) (k : Nat), anyI p l k = false ↔ ∀ i (h : i < l.length), p (k + i) l[i] = false
 | [], k => by simp [anyI]
 | x :: r, k => by
   rw [anyI, Bool.or_eq_false_iff, anyI_iff p r (k + 1)]
   constructor
   ·rintro ⟨h1, h2⟩ i hi
    cases i with
    | zero => exact h1
    | succ i => have := h2 i (by simpa using hi); rw [show k + 1 + i = k + (i + 1) by omega] at this; exact this
   ·intro h
    refine ⟨h 0 (by simp), fun i hi => ?_⟩
    have := h (i + 1) (by simpa using hi)
    rw [show k + 1 + i = k + (i + 1) by omega]
    exact this
theorem mapI_length {α : Type} (f : Nat → α → α) : ∀ (l : List α) (k : Nat), (mapI f l k).length = l.length
 | [], _ => rfl
 | x :: r, k => by simp [mapI, mapI_length f r]
theorem mapI_at {α : Type} (f : Nat → α → α) : ∀ (l : List α) (k i : Nat), (mapI f l k)[i]? = l[i]?.map (f (k + i))
 | [], _, _ => by simp [mapI]
 | x :: r, k, 0 => by simp [mapI]
 | x :: r, k, i + 1 => by
   rw [mapI, List.getElem?_cons_succ, mapI_at f r, List.getElem?_cons_succ, show k + 1 + i = k + (i + 1) by omega]
theorem mapI_get {α : Type} (f : Nat → α → α) (l : List α) (i : Nat) (h : i < (mapI f l 0).length) : (mapI f l 0)[i] = f i (l[i]'(by rw [mapI_length] at h; exact h)) := by
 have := mapI_at f l 0 i
 rw [List.getElem?_eq_getElem h, List.getElem?_eq_getElem (by rw [mapI_length] at h; exact h)] at this
 simpa using this
theorem idxF_neg {α : Type} {p : α → Bool} : ∀ {l : List α} {k : Nat}, idxF p l k < 0 → l.any p = false
 | [], _, _ => rfl
 | x :: r, k, h => by
   rw [idxF] at h
   rw [List.any_cons]
   cases hp : p x with
   | true => rw [hp] at h; simp at h; omega
   | false => rw [hp] at h; simpa using idxF_neg h
theorem idxF_pos {α : Type} {p : α → Bool} : ∀ {l : List α} {k : Nat}, 0 ≤ idxF p l k → ∃ i, ∃ h : i < l.length, idxF p l k = ((k + i : Nat) : Int) ∧ p l[i] = true
 | [], _, h => by simp [idxF] at h
 | x :: r, k, h => by
   rw [idxF] at h ⊢
   cases hp : p x with
   | true => exact ⟨0, by simp, by simp, hp⟩
   | false =>
     rw [hp] at h
     obtain ⟨i, hi, he, hpi⟩ := idxF_pos (p := p) (l := r) (k := k + 1) (by simpa using h)
     exact ⟨i + 1, by simpa using hi, by simp only [Bool.false_eq_true, if_false]; rw [he]; congr 1; omega, by simpa using hpi⟩
theorem bs_beq {a b : ByteArray} : (a == b) = true ↔ a = b := by
 constructor
 ·intro h
  cases a; cases b
  congr
  exact eq_of_beq (α := Array UInt8) h
 ·rintro rfl
  cases a
  exact beq_self_eq_true (α := Array UInt8) _
theorem bs_beq_false {a b : ByteArray} : (a == b) = false ↔ a ≠ b := by
 rw [← Bool.not_eq_true, bs_beq]
theorem empS_iff {s : ByteArray} : empS s = true ↔ s = noS := by
 obtain ⟨⟨l⟩⟩ := s
 cases l with
 | nil => simp [empS, noS, ByteArray.size]
 | cons c r => simp [empS, noS, ByteArray.size]
theorem empS_no : empS noS = true := rfl
theorem nameOk_ne {s : ByteArray} (h : nameOk s = true) : empS s = false := by
 unfold nameOk at h
 simp at h
 unfold empS
 rw [beq_eq_false_iff_ne]
 omega
structure KOk (k : Krn) : Prop where
 l0 : k.mods.length ≤ 8
 l1 : k.mem.length = 1024
 l2 : k.nodes.length = 8
 l3 : k.pipes.length = 6
 l4 : k.procs.length = 4
 mods : ∀ m ∈ k.mods, modCheck m = 0
 modd : k.mods.Pairwise fun a b => (a.name == b.name) = false
 mem : k.mem.any oddW = false
 nodes : ∀ i (h : i < k.nodes.length), nodBad k i k.nodes[i] = false
 procs : k.procs.any (prcBad k) = false
 pipes : ∀ i (h : i < k.pipes.length), pipBad k i k.pipes[i] = false
theorem modsE_iff : ∀ (r pre : List Mod), modsE pre r = 0 ↔ (∀ m ∈ r, modCheck m = 0) ∧ (∀ m ∈ r, pre.any (fun x => x.name == m.name) = false) ∧ r.Pairwise fun a b => (a.name == b.name) = false
 | [], pre => by simp [modsE]
 | m :: r, pre => by
   rw [modsE]
   by_cases h1 : modCheck m = 0
   ·rw [if_pos h1]
    by_cases h2 : pre.any (fun x => x.name == m.name) = true
    ·rw [if_pos h2]
     constructor
     ·intro h; cases h
     ·rintro ⟨_, h, _⟩
      have := h m (by simp)
      rw [h2] at this; cases this
    ·rw [if_neg h2, modsE_iff r (pre ++ [m])]
     rw [Bool.not_eq_true] at h2
     constructor
     ·rintro ⟨a, b, c⟩
      refine ⟨fun x hx => ?_, fun x hx => ?_, List.pairwise_cons.2 ⟨fun x hx => ?_, c⟩⟩
      ·rcases List.mem_cons.1 hx with rfl | hx
       ·exact h1
       ·exact a x hx
      ·rcases List.mem_cons.1 hx with rfl | hx
       ·exact h2
       ·have := b x hx; rw [List.any_append, Bool.or_eq_false_iff] at this; exact this.1
      ·have := b x hx; rw [List.any_append, Bool.or_eq_false_iff] at this; simpa using this.2
     ·rintro ⟨a, b, c⟩
      obtain ⟨c1, c2⟩ := List.pairwise_cons.1 c
      refine ⟨fun x hx => a x (by simp [hx]), fun x hx => ?_, c2⟩
      rw [List.any_append, Bool.or_eq_false_iff]
      exact ⟨b x (by simp [hx]), by simpa using c1 x hx⟩
   ·rw [if_neg h1]
    constructor
    ·intro h; exact absurd h h1
    ·rintro ⟨a, _⟩; exact absurd (a m (by simp)) h1
theorem kcheck_iff (k : Krn) : kcheck k = 0 ↔ KOk k := by
 unfold kcheck
 constructor
 ·intro h
  by_cases h0 : 8 < k.mods.length ∨ k.mem.length ≠ 1024 ∨ k.nodes.length ≠ 8 ∨ k.pipes.length ≠ 6 ∨ k.procs.length ≠ 4
  ·rw [if_pos h0] at h; cases h
  rw [if_neg h0] at h
  by_cases h1 : modsE [] k.mods = 0
  ·rw [if_pos h1] at h
   obtain ⟨m1, _, m3⟩ := (modsE_iff _ _).1 h1
   cases h2 : k.mem.any oddW with
   | true => rw [h2] at h; simp at h
   | false =>
     rw [h2] at h
     cases h3 : anyI (nodBad k) k.nodes 0 || k.procs.any (prcBad k) || anyI (pipBad k) k.pipes 0 with
     | true => rw [h3] at h; simp at h
     | false =>
       rw [Bool.or_eq_false_iff, Bool.or_eq_false_iff] at h3
       obtain ⟨⟨a, b⟩, c⟩ := h3
       have a' := (anyI_iff _ _ _).1 a
       have c' := (anyI_iff _ _ _).1 c
       simp only [Nat.zero_add] at a' c'
       exact ⟨by omega, by omega, by omega, by omega, by omega, m1, m3, h2, a', b, c'⟩
  ·rw [if_neg h1] at h; exact absurd h h1
 ·intro h
  have h0 : ¬ (8 < k.mods.length ∨ k.mem.length ≠ 1024 ∨ k.nodes.length ≠ 8 ∨ k.pipes.length ≠ 6 ∨ k.procs.length ≠ 4) := by
   have := h.l0; have := h.l1; have := h.l2; have := h.l3; have := h.l4; omega
  have a' : anyI (nodBad k) k.nodes 0 = false := (anyI_iff _ _ _).2 (by simpa using h.nodes)
  have c' : anyI (pipBad k) k.pipes 0 = false := (anyI_iff _ _ _).2 (by simpa using h.pipes)
  rw [if_neg h0, if_pos ((modsE_iff _ _).2 ⟨h.mods, by simp, h.modd⟩), h.mem, a', c', h.procs]
  simp
structure KPre (k : Krn) : Prop where
 l0 : k.mods.length ≤ 8
 l1 : k.mem.length = 1024
 l2 : k.nodes.length = 8
 l3 : k.pipes.length = 6
 l4 : k.procs.length = 4
 mods : ∀ m ∈ k.mods, modCheck m = 0
 modd : k.mods.Pairwise fun a b => (a.name == b.name) = false
 mem : k.mem.any oddW = false
 nodes : ∀ i (h : i < k.nodes.length), nodOk k.mods.length k.nodes[i] = true ∧ (k.nodes[i].name ≠ noS → nameOk k.nodes[i].name = true ∧ k.nodes[i].kind ≠ 0 ∧ ∀ j (hj : j < k.nodes.length), j < i → k.nodes[j].name ≠ k.nodes[i].name)
 procs : k.procs.any (prcBad k) = false
 pipes : ∀ i (h : i < k.pipes.length), k.pipes[i].size ≤ 20
theorem dupN_take {l : List Nod} {i : Nat} {s : ByteArray} (hi : i ≤ l.length) : dupN (l.take i) s = false ↔ ∀ j (hj : j < l.length), j < i → l[j].name ≠ s := by
 unfold dupN
 rw [List.any_eq_false]
 constructor
 ·intro h j hj hji
  have := h l[j] (List.mem_iff_getElem.2 ⟨j, by rw [List.length_take]; omega, by simp⟩)
  rw [Bool.not_eq_true, bs_beq_false] at this
  exact this
 ·intro h x hx
  obtain ⟨j, hj, rfl⟩ := List.mem_iff_getElem.1 hx
  rw [List.length_take] at hj
  rw [List.getElem_take, Bool.not_eq_true, bs_beq_false]
  exact h j (by omega) (by omega)
theorem nodBad_iff {k : Krn} {i : Nat} (hi : i < k.nodes.length) : nodBad k i k.nodes[i] = false ↔
  (nodOk k.mods.length k.nodes[i] = true ∧ (k.nodes[i].name ≠ noS → nameOk k.nodes[i].name = true ∧ k.nodes[i].kind ≠ 0 ∧ ∀ j (hj : j < k.nodes.length), j < i → k.nodes[j].name ≠ k.nodes[i].name)) ∧
  (k.nodes[i].kind ≠ 0 → k.nodes[i].name = noS → hasE k.procs 1 i = true) := by
 unfold nodBad
 rw [Bool.or_eq_false_iff, Bool.or_eq_false_iff, Bool.not_eq_false']
 refine and_congr (and_congr Iff.rfl ?_) ?_
 ·by_cases he : k.nodes[i].name = noS
  ·simp [he, empS_no]
  ·have : empS k.nodes[i].name = false := by rw [← Bool.not_eq_true, empS_iff]; exact he
   rw [this, ← dupN_take (l := k.nodes) (s := k.nodes[i].name) (by omega)]
   simp [he, and_assoc]
 ·by_cases he : k.nodes[i].name = noS
  ·simp [he, empS_no]
  ·have : empS k.nodes[i].name = false := by rw [← Bool.not_eq_true, empS_iff]; exact he
   simp [this, he]
theorem pipBad_iff {k : Krn} {i : Nat} {s : ByteArray} : pipBad k i s = false ↔ s.size ≤ 20 ∧ (s ≠ noS → hasE k.procs 2 i = true) := by
 unfold pipBad
 rw [Bool.or_eq_false_iff]
 refine and_congr (by simp) ?_
 by_cases he : s = noS
 ·simp [he, empS_no]
 ·have : empS s = false := by rw [← Bool.not_eq_true, empS_iff]; exact he
  simp [this, he]
theorem KOk.pre {k : Krn} (h : KOk k) : KPre k :=
 ⟨h.l0, h.l1, h.l2, h.l3, h.l4, h.mods, h.modd, h.mem, fun i hi => ((nodBad_iff hi).1 (h.nodes i hi)).1, h.procs, fun i hi => (pipBad_iff.1 (h.pipes i hi)).1⟩
theorem KPre.ok {k : Krn} (h : KPre k) (h1 : ∀ i (hi : i < k.nodes.length), k.nodes[i].kind ≠ 0 → k.nodes[i].name = noS → hasE k.procs 1 i = true) (h2 : ∀ i (hi : i < k.pipes.length), k.pipes[i] ≠ noS → hasE k.procs 2 i = true) : KOk k :=
 ⟨h.l0, h.l1, h.l2, h.l3, h.l4, h.mods, h.modd, h.mem, fun i hi => (nodBad_iff hi).2 ⟨h.nodes i hi, h1 i hi⟩, h.procs, fun i hi => pipBad_iff.2 ⟨h.pipes i hi, h2 i hi⟩⟩
theorem KOk.open_ {k : Krn} (h : KOk k) : (∀ i (hi : i < k.nodes.length), k.nodes[i].kind ≠ 0 → k.nodes[i].name = noS → hasE k.procs 1 i = true) ∧ (∀ i (hi : i < k.pipes.length), k.pipes[i] ≠ noS → hasE k.procs 2 i = true) :=
 ⟨fun i hi => ((nodBad_iff hi).1 (h.nodes i hi)).2, fun i hi => (pipBad_iff.1 (h.pipes i hi)).2⟩
theorem prcBad_iff {k : Krn} {p : Prc} : prcBad k p = false ↔ p.ends.length = 6 ∧ ∀ x ∈ p.ends, endOk k x = true ∧ (p.live = false → x.kind = 0) := by
 unfold prcBad
 rw [Bool.or_eq_false_iff, List.any_eq_false]
 refine and_congr (by simp) (forall_congr' fun x => imp_congr_right fun _ => ?_)
 rw [Bool.not_eq_true, Bool.or_eq_false_iff]
 cases p.live <;> simp
theorem procs_iff {k : Krn} : k.procs.any (prcBad k) = false ↔ ∀ i (h : i < k.procs.length), prcBad k k.procs[i] = false := by
 rw [List.any_eq_false]
 constructor
 ·intro h i hi
  have := h _ (List.getElem_mem hi)
  simpa using this
 ·intro h x hx
  obtain ⟨i, hi, rfl⟩ := List.mem_iff_getElem.1 hx
  rw [h i hi]; simp
theorem nodOk_free {n : Nat} {x : Nod} (h : nodOk n x = true) (hk : x.kind = 0) : x = default := by
 unfold nodOk at h
 rw [if_pos hk] at h
 simp only [Bool.and_eq_true, empS_iff, beq_iff_eq] at h
 obtain ⟨⟨a, b⟩, c⟩ := h
 obtain ⟨n, k, d, u⟩ := x
 simp only at a b c hk
 subst a; subst b; subst c; subst hk
 rfl
theorem hasE_iff {ps : List Prc} {kd pl : Int} : hasE ps kd pl = true ↔ ∃ p ∈ ps, ∃ x ∈ p.ends, x.kind = kd ∧ x.node = pl := by
 simp [hasE, hasP]
theorem tidy_ok {k : Krn} (h : KPre k) : KOk (tidyK k) := by
 have hlen : (tidyK k).nodes.length = k.nodes.length := mapI_length _ _ _
 have hlp : (tidyK k).pipes.length = k.pipes.length := mapI_length _ _ _
 have hnod : ∀ i (hi : i < (tidyK k).nodes.length), (tidyK k).nodes[i] = tidyN k.procs i (k.nodes[i]'(by rw [hlen] at hi; exact hi)) := fun i hi => mapI_get _ _ _ hi
 have hpip : ∀ i (hi : i < (tidyK k).pipes.length), (tidyK k).pipes[i] = tidyS k.procs i (k.pipes[i]'(by rw [hlp] at hi; exact hi)) := fun i hi => mapI_get _ _ _ hi
 have hname : ∀ (i : Nat) (x : Nod), (tidyN k.procs i x).name = noS ∨ (tidyN k.procs i x) = x := fun i x => by
  unfold tidyN; split
  ·left; rfl
  ·right; rfl
 refine KPre.ok ⟨h.l0, h.l1, hlen.trans h.l2, hlp.trans h.l3, h.l4, h.mods, h.modd, h.mem, fun i hi => ?_, ?_, fun i hi => ?_⟩ (fun i hi hk hn => ?_) (fun i hi hn => ?_)
 ·have hi' : i < k.nodes.length := by rw [hlen] at hi; exact hi
  obtain ⟨a, b⟩ := h.nodes i hi'
  rw [hnod i hi]
  refine ⟨?_, fun hne => ?_⟩
  ·show nodOk k.mods.length _ = true
   unfold tidyN; split
   ·rfl
   ·exact a
  ·rcases hname i k.nodes[i] with e | e
   ·exact absurd e hne
   ·rw [e] at hne ⊢
    obtain ⟨b1, b2, b3⟩ := b hne
    refine ⟨b1, b2, fun j hj hji => ?_⟩
    rw [hnod j hj]
    rcases hname j (k.nodes[j]'(by rw [hlen] at hj; exact hj)) with e' | e'
    ·rw [e']; exact fun e'' => hne e''.symm
    ·rw [e']; exact b3 j (by rw [hlen] at hj; exact hj) hji
 ·rw [procs_iff]
  intro i hi
  have hp := (procs_iff.1 h.procs) i hi
  rw [prcBad_iff] at hp ⊢
  refine ⟨hp.1, fun x hx => ⟨?_, (hp.2 x hx).2⟩⟩
  have hx1 := (hp.2 x hx).1
  unfold endOk at hx1 ⊢
  by_cases k0 : x.kind = 0
  ·rw [if_pos k0] at hx1 ⊢; exact hx1
  rw [if_neg k0] at hx1 ⊢
  by_cases k1 : x.kind = 1
  ·rw [if_pos k1] at hx1 ⊢
   simp only [Bool.and_eq_true, decide_eq_true_eq, bne_iff_ne] at hx1 ⊢
   obtain ⟨⟨⟨a1, a2⟩, a3⟩, a4⟩ := hx1
   refine ⟨⟨⟨a1, a2⟩, ?_⟩, a4⟩
   have hj : x.node.toNat < (tidyK k).nodes.length := by rw [hlen, h.l2]; omega
   have hj' : x.node.toNat < k.nodes.length := by rw [h.l2]; omega
   rw [List.getD_eq_getElem?_getD, List.getElem?_eq_getElem hj, Option.getD_some, hnod _ hj]
   rw [List.getD_eq_getElem?_getD, List.getElem?_eq_getElem hj', Option.getD_some] at a3
   have hh : hasE k.procs 1 (x.node.toNat : Int) = true := hasE_iff.2 ⟨_, List.getElem_mem hi, x, hx, k1, by omega⟩
   unfold tidyN
   rw [hh]
   simpa using a3
  rw [if_neg k1] at hx1 ⊢
  exact hx1
 ·rw [hpip i hi]
  unfold tidyS; split
  ·exact h.pipes i _
  ·show (0 : Nat) ≤ 20; omega
 ·rw [hnod i hi] at hk hn
  unfold tidyN at hk hn
  split at hk
  ·exact absurd rfl hk
  ·rename_i hc
   rw [if_neg hc] at hn
   rw [hn] at hc
   have : hasE k.procs 1 i = true := by simpa [empS_no] using hc
   exact this
 ·rw [hpip i hi] at hn
  unfold tidyS at hn
  split at hn
  ·assumption
  ·exact absurd rfl hn
end Go.Proofs.YtdjamdbamkhblacDoor
namespace Go.Proofs.YtdjamdbamkhblacDoor
end Go.Proofs.YtdjamdbamkhblacDoor
namespace Go.Proofs.YtdjamdbamkhblacDoor
def ldB (i : Ins) : Bool := i.op == 8 || i.op == 9
def atMap (l : List Ins) (k : Nat) : Nat := k + 2 * (l.take k).countP ldB
structure Sim (l : List Ins) (s t : Mc) : Prop where
 pos : s.pos < l.length
 tpos : t.pos = atMap l s.pos
 back : ∀ p ∈ s.back, p < l.length
 tback : t.back = s.back.map (atMap l)
 s8 : s.regs.length = 8
 t8 : t.regs.length = 8
 regs : ∀ k, k < 8 → k ≠ 4 → k ≠ 5 → k ≠ 6 → s.regs.getD k 0 = t.regs.getD k 0
 r5 : t.regs.getD 5 0 = 0
 r6 : t.regs.getD 6 0 = 63
 told : s.told = t.told
 mem : s.mem = t.mem
 small : s.mem.length ≤ 64
structure Out (s t : Mc) : Prop where
 s8 : s.regs.length = 8
 t8 : t.regs.length = 8
 regs : ∀ k, k < 4 → s.regs.getD k 0 = t.regs.getD k 0
 told : s.told = t.told
 mem : s.mem = t.mem
theorem Sim.rg {l : List Ins} {s t : Mc} (h : Sim l s t) {z : Int} (h0 : 0 ≤ z) (h7 : z ≤ 7) (ho : ¬ (4 ≤ z ∧ z ≤ 6)) : rg t z = rg s z := by
 unfold YtdjamdbamkhblacDoor.rg
 exact (h.regs z.toNat (by omega) (by omega) (by omega) (by omega)).symm
theorem Sim.out {l : List Ins} {s t : Mc} (h : Sim l s t) : Out s t := ⟨h.s8, h.t8, fun k hk => h.regs k (by omega) (by omega) (by omega) (by omega), h.told, h.mem⟩
end Go.Proofs.YtdjamdbamkhblacDoor
namespace Go.Proofs.YtdjamdbamkhblacDoor
theorem gA_le (op : Int) : gA op ≤ 7 := by unfold gA; split <;> omega
theorem gB_le (op : Int) : gB op ≤ 7 := by unfold gB; split <;> omega
theorem gC_le (op : Int) : gC op ≤ 65535 := by unfold gC; repeat' split
                                               all_goals omega
theorem okI_iff (i : Ins) : okI i = true ↔ (0 ≤ i.a ∧ i.a ≤ gA i.op) ∧ (0 ≤ i.b ∧ i.b ≤ gB i.op) ∧ (0 ≤ i.c ∧ i.c ≤ gC i.op) := by
 simp [okI, and_assoc]
theorem insOk_of {i : Ins} (h1 : 1 ≤ i.op) (h2 : i.op ≤ 15) (h : okI i = true) : InsOk i := by
 obtain ⟨⟨a1, a2⟩, ⟨b1, b2⟩, c1, c2⟩ := (okI_iff i).1 h
 have := gA_le i.op
 have := gB_le i.op
 have := gC_le i.op
 refine ⟨h1, h2, a1, by omega, b1, by omega, c1, by omega, fun h3 h4 => ?_⟩
 unfold gC at c2
 rw [if_neg (by omega), if_pos ⟨h3, h4⟩] at c2
 exact c2
theorem chk_zero_iff (l : List Ins) : chk l = 0 ↔ ∀ i ∈ l, (1 ≤ i.op ∧ i.op ≤ 15) ∧ okI i = true := by
 induction l with
 | nil => simp [chk]
 | cons i r ih =>
   rw [chk]
   by_cases h1 : i.op < 1 ∨ 15 < i.op
   ·rw [if_pos h1]
    refine ⟨fun h => by omega, fun h => ?_⟩
    have := (h i (List.mem_cons_self ..)).1
    omega
   ·rw [if_neg h1]
    by_cases h2 : okI i = true
    ·rw [if_pos h2, ih]
     exact ⟨fun h j hj => by
      rcases List.mem_cons.1 hj with rfl | hj
      ·exact ⟨by omega, h2⟩
      ·exact h j hj, fun h j hj => h j (List.mem_cons_of_mem _ hj)⟩
    ·rw [if_neg h2]
     exact ⟨fun h => by omega, fun h => absurd (h i (List.mem_cons_self ..)).2 h2⟩
theorem check_zero_iff (l : List Ins) : check l = 0 ↔ l.length ≤ 200 ∧ chk l = 0 := by
 unfold check
 split
 ·exact ⟨fun h => by omega, fun h => by omega⟩
 ·exact ⟨fun h => ⟨by omega, h⟩, fun h => h.2⟩
theorem codeOk_of_check {l : List Ins} (h : check l = 0) : CodeOk l := fun i hi => by
 have := (chk_zero_iff l).1 ((check_zero_iff l).1 h).2 i hi
 exact insOk_of this.1.1 this.1.2 this.2
end Go.Proofs.YtdjamdbamkhblacDoor
namespace Go.Proofs.YtdjamdbamkhblacDoor
theorem verify_zero_iff (l : List Ins) : verify l = 0 ↔ check l = 0 ∧ lastOk l = true ∧ vrf l.length l = 0 := by
 unfold verify
 split
 ·rename_i h
  split
  ·rename_i h2
   exact ⟨fun e => ⟨h, h2, e⟩, fun e => e.2.2⟩
  ·rename_i h2
   exact ⟨fun e => by omega, fun e => absurd e.2.1 h2⟩
 ·rename_i h
  exact ⟨fun e => absurd e h, fun e => absurd e.1 h⟩
end Go.Proofs.YtdjamdbamkhblacDoor
