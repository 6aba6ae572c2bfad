/- A kernel that is in order, and what is tidied: plain mathematics. Trusted code keeps to its region, and what it does hangs on its region alone: plain mathematics. -/
import Derived.Test.YtdjamdbamkhblacDoorG07
import Derived.Test.YtdjamdbamkhblacDoorG06
import Derived.Test.YtdjamdbamkhblacDoorG05
namespace Go.Proofs.YtdjamdbamkhblacDoor
open Go.RowKit
theorem anyI_iff {α : Type} (p : Nat → α → Bool) : ∀ (l : List α) (k : Nat), anyI p l k = false ↔ ∀ i (h : i < l.length), p (k + i) l[i] = false
  | [], k => by simp [anyI]
  | x :: r, k => by
    rw [anyI, Bool.or_eq_false_iff, anyI_iff p r (k + 1)]
    constructor
    · rintro ⟨h1, h2⟩ i hi
      cases i with
      | zero => exact h1
      | succ i => have := h2 i (by simpa using hi); rw [show k + 1 + i = k + (i + 1) by omega] at this; exact this
    · intro h
      refine ⟨h 0 (by simp), fun i hi => ?_⟩
      have := h (i + 1) (by simpa using hi)
      rw [show k + 1 + i = k + (i + 1) by omega]
      exact this
theorem mapI_length {α : Type} (f : Nat → α → α) : ∀ (l : List α) (k : Nat), (mapI f l k).length = l.length
  | [], _ => rfl
  | x :: r, k => by simp [mapI, mapI_length f r]
theorem mapI_at {α : Type} (f : Nat → α → α) : ∀ (l : List α) (k i : Nat), (mapI f l k)[i]? = l[i]?.map (f (k + i))
  | [], _, _ => by simp [mapI]
  | x :: r, k, 0 => by simp [mapI]
  | x :: r, k, i + 1 => by
    rw [mapI, List.getElem?_cons_succ, mapI_at f r, List.getElem?_cons_succ, show k + 1 + i = k + (i + 1) by omega]
theorem mapI_get {α : Type} (f : Nat → α → α) (l : List α) (i : Nat) (h : i < (mapI f l 0).length) : (mapI f l 0)[i] = f i (l[i]'(by rw [mapI_length] at h; exact h)) := by
  have := mapI_at f l 0 i
  rw [List.getElem?_eq_getElem h, List.getElem?_eq_getElem (by rw [mapI_length] at h; exact h)] at this
  simpa using this
theorem idxF_neg {α : Type} {p : α → Bool} : ∀ {l : List α} {k : Nat}, idxF p l k < 0 → l.any p = false
  | [], _, _ => rfl
  | x :: r, k, h => by
    rw [idxF] at h
    rw [List.any_cons]
    cases hp : p x with
    | true => rw [hp] at h; simp at h; omega
    | false => rw [hp] at h; simpa using idxF_neg h
theorem idxF_pos {α : Type} {p : α → Bool} : ∀ {l : List α} {k : Nat}, 0 ≤ idxF p l k → ∃ i, ∃ h : i < l.length, idxF p l k = ((k + i : Nat) : Int) ∧ p l[i] = true
  | [], _, h => by simp [idxF] at h
  | x :: r, k, h => by
    rw [idxF] at h ⊢
    cases hp : p x with
    | true => exact ⟨0, by simp, by simp, hp⟩
    | false =>
      rw [hp] at h
      obtain ⟨i, hi, he, hpi⟩ := idxF_pos (p := p) (l := r) (k := k + 1) (by simpa using h)
      exact ⟨i + 1, by simpa using hi, by simp only [Bool.false_eq_true, if_false]; rw [he]; congr 1; omega, by simpa using hpi⟩
theorem bs_beq {a b : ByteArray} : (a == b) = true ↔ a = b := by
  constructor
  · intro h
    cases a; cases b
    congr
    exact eq_of_beq (α := Array UInt8) h
  · rintro rfl
    cases a
    exact beq_self_eq_true (α := Array UInt8) _
theorem bs_beq_false {a b : ByteArray} : (a == b) = false ↔ a ≠ b := by
  rw [← Bool.not_eq_true, bs_beq]
theorem empS_iff {s : ByteArray} : empS s = true ↔ s = noS := by
  obtain ⟨⟨l⟩⟩ := s
  cases l with
  | nil => simp [empS, noS, ByteArray.size]
  | cons c r => simp [empS, noS, ByteArray.size]
theorem empS_no : empS noS = true := rfl
theorem nameOk_ne {s : ByteArray} (h : nameOk s = true) : empS s = false := by
  unfold nameOk at h
  simp at h
  unfold empS
  rw [beq_eq_false_iff_ne]
  omega

/-- A kernel that is in order. -/
structure KOk (k : Krn) : Prop where
  l0 : k.mods.length ≤ 8
  l1 : k.mem.length = 1024
  l2 : k.nodes.length = 8
  l3 : k.pipes.length = 6
  l4 : k.procs.length = 4
  mods : ∀ m ∈ k.mods, modCheck m = 0
  modd : k.mods.Pairwise fun a b => (a.name == b.name) = false
  mem : k.mem.any oddW = false
  nodes : ∀ i (h : i < k.nodes.length), nodBad k i k.nodes[i] = false
  procs : k.procs.any (prcBad k) = false
  pipes : ∀ i (h : i < k.pipes.length), pipBad k i k.pipes[i] = false
theorem modsE_iff : ∀ (r pre : List Mod), modsE pre r = 0 ↔ (∀ m ∈ r, modCheck m = 0) ∧ (∀ m ∈ r, pre.any (fun x => x.name == m.name) = false) ∧ r.Pairwise fun a b => (a.name == b.name) = false
  | [], pre => by simp [modsE]
  | m :: r, pre => by
    rw [modsE]
    by_cases h1 : modCheck m = 0
    · rw [if_pos h1]
      by_cases h2 : pre.any (fun x => x.name == m.name) = true
      · rw [if_pos h2]
        constructor
        · intro h; cases h
        · rintro ⟨_, h, _⟩
          have := h m (by simp)
          rw [h2] at this; cases this
      · rw [if_neg h2, modsE_iff r (pre ++ [m])]
        rw [Bool.not_eq_true] at h2
        constructor
        · rintro ⟨a, b, c⟩
          refine ⟨fun x hx => ?_, fun x hx => ?_, List.pairwise_cons.2 ⟨fun x hx => ?_, c⟩⟩
          · rcases List.mem_cons.1 hx with rfl | hx
            · exact h1
            · exact a x hx
          · rcases List.mem_cons.1 hx with rfl | hx
            · exact h2
            · have := b x hx; rw [List.any_append, Bool.or_eq_false_iff] at this; exact this.1
          · have := b x hx; rw [List.any_append, Bool.or_eq_false_iff] at this; simpa using this.2
        · rintro ⟨a, b, c⟩
          obtain ⟨c1, c2⟩ := List.pairwise_cons.1 c
          refine ⟨fun x hx => a x (by simp [hx]), fun x hx => ?_, c2⟩
          rw [List.any_append, Bool.or_eq_false_iff]
          exact ⟨b x (by simp [hx]), by simpa using c1 x hx⟩
    · rw [if_neg h1]
      constructor
      · intro h; exact absurd h h1
      · rintro ⟨a, _⟩; exact absurd (a m (by simp)) h1
theorem kcheck_iff (k : Krn) : kcheck k = 0 ↔ KOk k := by
  unfold kcheck
  constructor
  · intro h
    by_cases h0 : 8 < k.mods.length ∨ k.mem.length ≠ 1024 ∨ k.nodes.length ≠ 8 ∨ k.pipes.length ≠ 6 ∨ k.procs.length ≠ 4
    · rw [if_pos h0] at h; cases h
    rw [if_neg h0] at h
    by_cases h1 : modsE [] k.mods = 0
    · rw [if_pos h1] at h
      obtain ⟨m1, _, m3⟩ := (modsE_iff _ _).1 h1
      cases h2 : k.mem.any oddW with
      | true => rw [h2] at h; simp at h
      | false =>
        rw [h2] at h
        cases h3 : anyI (nodBad k) k.nodes 0 || k.procs.any (prcBad k) || anyI (pipBad k) k.pipes 0 with
        | true => rw [h3] at h; simp at h
        | false =>
          rw [Bool.or_eq_false_iff, Bool.or_eq_false_iff] at h3
          obtain ⟨⟨a, b⟩, c⟩ := h3
          have a' := (anyI_iff _ _ _).1 a
          have c' := (anyI_iff _ _ _).1 c
          simp only [Nat.zero_add] at a' c'
          exact ⟨by omega, by omega, by omega, by omega, by omega, m1, m3, h2, a', b, c'⟩
    · rw [if_neg h1] at h; exact absurd h h1
  · intro h
    have h0 : ¬ (8 < k.mods.length ∨ k.mem.length ≠ 1024 ∨ k.nodes.length ≠ 8 ∨ k.pipes.length ≠ 6 ∨ k.procs.length ≠ 4) := by
      have := h.l0; have := h.l1; have := h.l2; have := h.l3; have := h.l4; omega
    have a' : anyI (nodBad k) k.nodes 0 = false := (anyI_iff _ _ _).2 (by simpa using h.nodes)
    have c' : anyI (pipBad k) k.pipes 0 = false := (anyI_iff _ _ _).2 (by simpa using h.pipes)
    rw [if_neg h0, if_pos ((modsE_iff _ _).2 ⟨h.mods, by simp, h.modd⟩), h.mem, a', c', h.procs]
    simp

/-- As KOk, but for what nobody has open. -/
structure KPre (k : Krn) : Prop where
  l0 : k.mods.length ≤ 8
  l1 : k.mem.length = 1024
  l2 : k.nodes.length = 8
  l3 : k.pipes.length = 6
  l4 : k.procs.length = 4
  mods : ∀ m ∈ k.mods, modCheck m = 0
  modd : k.mods.Pairwise fun a b => (a.name == b.name) = false
  mem : k.mem.any oddW = false
  nodes : ∀ i (h : i < k.nodes.length), nodOk k.mods.length k.nodes[i] = true ∧ (k.nodes[i].name ≠ noS → nameOk k.nodes[i].name = true ∧ k.nodes[i].kind ≠ 0 ∧ ∀ j (hj : j < k.nodes.length), j < i → k.nodes[j].name ≠ k.nodes[i].name)
  procs : k.procs.any (prcBad k) = false
  pipes : ∀ i (h : i < k.pipes.length), k.pipes[i].size ≤ 20
theorem dupN_take {l : List Nod} {i : Nat} {s : ByteArray} (hi : i ≤ l.length) : dupN (l.take i) s = false ↔ ∀ j (hj : j < l.length), j < i → l[j].name ≠ s := by
  unfold dupN
  rw [List.any_eq_false]
  constructor
  · intro h j hj hji
    have := h l[j] (List.mem_iff_getElem.2 ⟨j, by rw [List.length_take]; omega, by simp⟩)
    rw [Bool.not_eq_true, bs_beq_false] at this
    exact this
  · intro h x hx
    obtain ⟨j, hj, rfl⟩ := List.mem_iff_getElem.1 hx
    rw [List.length_take] at hj
    rw [List.getElem_take, Bool.not_eq_true, bs_beq_false]
    exact h j (by omega) (by omega)
theorem nodBad_iff {k : Krn} {i : Nat} (hi : i < k.nodes.length) : nodBad k i k.nodes[i] = false ↔
    (nodOk k.mods.length k.nodes[i] = true ∧ (k.nodes[i].name ≠ noS → nameOk k.nodes[i].name = true ∧ k.nodes[i].kind ≠ 0 ∧ ∀ j (hj : j < k.nodes.length), j < i → k.nodes[j].name ≠ k.nodes[i].name)) ∧
    (k.nodes[i].kind ≠ 0 → k.nodes[i].name = noS → hasE k.procs 1 i = true) := by
  unfold nodBad
  rw [Bool.or_eq_false_iff, Bool.or_eq_false_iff, Bool.not_eq_false']
  refine and_congr (and_congr Iff.rfl ?_) ?_
  · by_cases he : k.nodes[i].name = noS
    · simp [he, empS_no]
    · have : empS k.nodes[i].name = false := by rw [← Bool.not_eq_true, empS_iff]; exact he
      rw [this, ← dupN_take (l := k.nodes) (s := k.nodes[i].name) (by omega)]
      simp [he, and_assoc]
  · by_cases he : k.nodes[i].name = noS
    · simp [he, empS_no]
    · have : empS k.nodes[i].name = false := by rw [← Bool.not_eq_true, empS_iff]; exact he
      simp [this, he]
theorem pipBad_iff {k : Krn} {i : Nat} {s : ByteArray} : pipBad k i s = false ↔ s.size ≤ 20 ∧ (s ≠ noS → hasE k.procs 2 i = true) := by
  unfold pipBad
  rw [Bool.or_eq_false_iff]
  refine and_congr (by simp) ?_
  by_cases he : s = noS
  · simp [he, empS_no]
  · have : empS s = false := by rw [← Bool.not_eq_true, empS_iff]; exact he
    simp [this, he]
theorem KOk.pre {k : Krn} (h : KOk k) : KPre k :=
  ⟨h.l0, h.l1, h.l2, h.l3, h.l4, h.mods, h.modd, h.mem, fun i hi => ((nodBad_iff hi).1 (h.nodes i hi)).1, h.procs, fun i hi => (pipBad_iff.1 (h.pipes i hi)).1⟩
theorem KPre.ok {k : Krn} (h : KPre k) (h1 : ∀ i (hi : i < k.nodes.length), k.nodes[i].kind ≠ 0 → k.nodes[i].name = noS → hasE k.procs 1 i = true) (h2 : ∀ i (hi : i < k.pipes.length), k.pipes[i] ≠ noS → hasE k.procs 2 i = true) : KOk k :=
  ⟨h.l0, h.l1, h.l2, h.l3, h.l4, h.mods, h.modd, h.mem, fun i hi => (nodBad_iff hi).2 ⟨h.nodes i hi, h1 i hi⟩, h.procs, fun i hi => pipBad_iff.2 ⟨h.pipes i hi, h2 i hi⟩⟩
theorem KOk.open_ {k : Krn} (h : KOk k) : (∀ i (hi : i < k.nodes.length), k.nodes[i].kind ≠ 0 → k.nodes[i].name = noS → hasE k.procs 1 i = true) ∧ (∀ i (hi : i < k.pipes.length), k.pipes[i] ≠ noS → hasE k.procs 2 i = true) :=
  ⟨fun i hi => ((nodBad_iff hi).1 (h.nodes i hi)).2, fun i hi => (pipBad_iff.1 (h.pipes i hi)).2⟩
theorem prcBad_iff {k : Krn} {p : Prc} : prcBad k p = false ↔ p.ends.length = 6 ∧ ∀ x ∈ p.ends, endOk k x = true ∧ (p.live = false → x.kind = 0) := by
  unfold prcBad
  rw [Bool.or_eq_false_iff, List.any_eq_false]
  refine and_congr (by simp) (forall_congr' fun x => imp_congr_right fun _ => ?_)
  rw [Bool.not_eq_true, Bool.or_eq_false_iff]
  cases p.live <;> simp
theorem procs_iff {k : Krn} : k.procs.any (prcBad k) = false ↔ ∀ i (h : i < k.procs.length), prcBad k k.procs[i] = false := by
  rw [List.any_eq_false]
  constructor
  · intro h i hi
    have := h _ (List.getElem_mem hi)
    simpa using this
  · intro h x hx
    obtain ⟨i, hi, rfl⟩ := List.mem_iff_getElem.1 hx
    rw [h i hi]; simp
theorem nodOk_free {n : Nat} {x : Nod} (h : nodOk n x = true) (hk : x.kind = 0) : x = default := by
  unfold nodOk at h
  rw [if_pos hk] at h
  simp only [Bool.and_eq_true, empS_iff, beq_iff_eq] at h
  obtain ⟨⟨a, b⟩, c⟩ := h
  obtain ⟨n, k, d, u⟩ := x
  simp only at a b c hk
  subst a; subst b; subst c; subst hk
  rfl
theorem hasE_iff {ps : List Prc} {kd pl : Int} : hasE ps kd pl = true ↔ ∃ p ∈ ps, ∃ x ∈ p.ends, x.kind = kd ∧ x.node = pl := by
  simp [hasE, hasP]
/-- What is tidied is in order. -/
theorem tidy_ok {k : Krn} (h : KPre k) : KOk (tidyK k) := by
  have hlen : (tidyK k).nodes.length = k.nodes.length := mapI_length _ _ _
  have hlp : (tidyK k).pipes.length = k.pipes.length := mapI_length _ _ _
  have hnod : ∀ i (hi : i < (tidyK k).nodes.length), (tidyK k).nodes[i] = tidyN k.procs i (k.nodes[i]'(by rw [hlen] at hi; exact hi)) := fun i hi => mapI_get _ _ _ hi
  have hpip : ∀ i (hi : i < (tidyK k).pipes.length), (tidyK k).pipes[i] = tidyS k.procs i (k.pipes[i]'(by rw [hlp] at hi; exact hi)) := fun i hi => mapI_get _ _ _ hi
  have hname : ∀ (i : Nat) (x : Nod), (tidyN k.procs i x).name = noS ∨ (tidyN k.procs i x) = x := fun i x => by
    unfold tidyN; split
    · left; rfl
    · right; rfl
  refine KPre.ok ⟨h.l0, h.l1, hlen.trans h.l2, hlp.trans h.l3, h.l4, h.mods, h.modd, h.mem, fun i hi => ?_, ?_, fun i hi => ?_⟩ (fun i hi hk hn => ?_) (fun i hi hn => ?_)
  · have hi' : i < k.nodes.length := by rw [hlen] at hi; exact hi
    obtain ⟨a, b⟩ := h.nodes i hi'
    rw [hnod i hi]
    refine ⟨?_, fun hne => ?_⟩
    · show nodOk k.mods.length _ = true
      unfold tidyN; split
      · rfl
      · exact a
    · rcases hname i k.nodes[i] with e | e
      · exact absurd e hne
      · rw [e] at hne ⊢
        obtain ⟨b1, b2, b3⟩ := b hne
        refine ⟨b1, b2, fun j hj hji => ?_⟩
        rw [hnod j hj]
        rcases hname j (k.nodes[j]'(by rw [hlen] at hj; exact hj)) with e' | e'
        · rw [e']; exact fun e'' => hne e''.symm
        · rw [e']; exact b3 j (by rw [hlen] at hj; exact hj) hji
  · rw [procs_iff]
    intro i hi
    have hp := (procs_iff.1 h.procs) i hi
    rw [prcBad_iff] at hp ⊢
    refine ⟨hp.1, fun x hx => ⟨?_, (hp.2 x hx).2⟩⟩
    have hx1 := (hp.2 x hx).1
    unfold endOk at hx1 ⊢
    by_cases k0 : x.kind = 0
    · rw [if_pos k0] at hx1 ⊢; exact hx1
    rw [if_neg k0] at hx1 ⊢
    by_cases k1 : x.kind = 1
    · rw [if_pos k1] at hx1 ⊢
      simp only [Bool.and_eq_true, decide_eq_true_eq, bne_iff_ne] at hx1 ⊢
      obtain ⟨⟨⟨a1, a2⟩, a3⟩, a4⟩ := hx1
      refine ⟨⟨⟨a1, a2⟩, ?_⟩, a4⟩
      have hj : x.node.toNat < (tidyK k).nodes.length := by rw [hlen, h.l2]; omega
      have hj' : x.node.toNat < k.nodes.length := by rw [h.l2]; omega
      rw [List.getD_eq_getElem?_getD, List.getElem?_eq_getElem hj, Option.getD_some, hnod _ hj]
      rw [List.getD_eq_getElem?_getD, List.getElem?_eq_getElem hj', Option.getD_some] at a3
      have hh : hasE k.procs 1 (x.node.toNat : Int) = true := hasE_iff.2 ⟨_, List.getElem_mem hi, x, hx, k1, by omega⟩
      unfold tidyN
      rw [hh]
      simpa using a3
    rw [if_neg k1] at hx1 ⊢
    exact hx1
  · rw [hpip i hi]
    unfold tidyS; split
    · exact h.pipes i _
    · show (0 : Nat) ≤ 20; omega
  · rw [hnod i hi] at hk hn
    unfold tidyN at hk hn
    split at hk
    · exact absurd rfl hk
    · rename_i hc
      rw [if_neg hc] at hn
      rw [hn] at hc
      have : hasE k.procs 1 i = true := by simpa [empS_no] using hc
      exact this
  · rw [hpip i hi] at hn
    unfold tidyS at hn
    split at hn
    · assumption
    · exact absurd rfl hn
end Go.Proofs.YtdjamdbamkhblacDoor
namespace Go.Proofs.YtdjamdbamkhblacDoor
/-- Code that may be trusted. -/
structure Trusted (l : List Ins) : Prop where
  code : CodeOk l
  last : ∀ k (h : k < l.length), k + 1 = l.length → endB l[k] = true
  each : ∀ k (h : k < l.length), badB l.length l[k] (l.getD (k + 1) default) = false

theorem or_base (r y : Nat) (hy : y < 64) : y ||| 64 * r = 64 * r + y := by
  have h := Nat.shiftLeft_add_eq_or_of_lt (i := 6) (b := y) hy r
  rw [Nat.shiftLeft_eq, Nat.mul_comm] at h
  rw [Nat.or_comm]
  exact h.symm
theorem or_base' (r x : Nat) (h1 : 64 * r ≤ x) (h2 : x ≤ 64 * r + 63) : x ||| 64 * r = x := by
  have h := or_base r (x - 64 * r) (by omega)
  have e : x = 64 * r + (x - 64 * r) := by omega
  rw [Nat.or_comm] at h
  rw [e, ← h, Nat.or_comm, ← Nat.or_assoc, Nat.or_self]

/-- What holds of a machine that runs trusted code in region r. -/
structure Keeps (r : Nat) (l : List Ins) (s : Mc) : Prop where
  ok : McOk s
  pos : s.pos < l.length
  back : ∀ p ∈ s.back, p < l.length
  r5 : s.regs.getD 5 0 = 64 * r
  r6 : s.regs.getD 6 0 = 63
  r4 : (64 * r ≤ s.regs.getD 4 0 ∧ s.regs.getD 4 0 ≤ 64 * r + 63) ∨ (s.regs.getD 4 0 ≤ 63 ∧ sndB (l.getD s.pos default) = true)
  mem : s.mem.length = 1024

theorem getD_set (l : List Nat) (k j v : Nat) : (l.set k v).getD j 0 = if k = j ∧ j < l.length then v else l.getD j 0 := by
  simp only [List.getD_eq_getElem?_getD, List.getElem?_set]
  by_cases h : k = j
  · subst h
    by_cases h2 : k < l.length
    · simp [h2]
    · simp [h2]
  · simp [h]

theorem badB_false {n : Nat} {i j : Ins} (h : badB n i j = false) :
    (1 ≤ i.op → i.op ≤ 8 → i.a ≠ 5 ∧ i.a ≠ 6) ∧ (1 ≤ i.op → i.op ≤ 8 → i.a = 4 → ¬ (i.op = 5 ∧ i.a = 4 ∧ i.b = 4 ∧ i.c = 5) → (i.op = 4 ∧ i.a = 4 ∧ i.c = 6) ∧ (j.op = 5 ∧ j.a = 4 ∧ j.b = 4 ∧ j.c = 5)) ∧
    ((i.op = 8 ∨ i.op = 9) → i.b = 4) ∧ ((i.op = 10 ∨ i.op = 11 ∨ i.op = 12) → i.c < n) := by
  simp only [badB, wrB, fstB, sndB, jmpB, Bool.or_eq_false_iff, Bool.and_eq_false_iff, Bool.not_eq_false', decide_eq_false_iff_not, decide_eq_true_eq, beq_eq_false_iff_ne, ne_eq, Bool.and_eq_true, bne_eq_false_iff_eq] at h
  obtain ⟨⟨⟨b1, b2⟩, b3⟩, b4⟩ := h
  refine ⟨fun h1 h2 => ?_, fun h1 h2 h3 h5 => ?_, fun h1 => ?_, fun h1 => ?_⟩
  · rcases b1 with b1 | b1
    · exact absurd ⟨h1, h2⟩ b1
    · exact b1
  · rcases b2 with ((b2 | b2) | b2) | b2
    · exact absurd ⟨h1, h2⟩ b2
    · exact absurd h3 b2
    · exact absurd b2 h5
    · exact b2
  · rcases b3 with b3 | b3
    · omega
    · exact b3
  · rcases b4 with b4 | b4
    · exact absurd h1 b4
    · omega
set_option maxHeartbeats 1000000 in
theorem step_keeps {r : Nat} {l : List Ins} {s : Mc} (hr : r < 16) (ht : Trusted l) (h : Keeps r l s) :
    (step l s).2 ≠ 3 ∧ ((step l s).2 = 0 → Keeps r l (step l s).1) ∧ ∀ j, j < 64 * r ∨ 64 * r + 64 ≤ j → (step l s).1.mem.getD j 0 = s.mem.getD j 0 := by
  have hok := step_ok (s := s) ht.code h.ok
  have hml : (step l s).1.mem.length = 1024 := step_mem.trans h.mem
  have hpos := h.pos
  have hin : l[s.pos]? = some l[s.pos] := List.getElem?_eq_getElem hpos
  obtain ⟨f1, f2, f3, f4⟩ := badB_false (ht.each s.pos hpos)
  have hlast := ht.last s.pos hpos
  have hgd : l.getD s.pos default = l[s.pos] := by rw [List.getD_eq_getElem?_getD, hin]; rfl
  have h4 := h.r4
  rw [hgd] at h4
  have hI := ht.code _ (List.getElem_mem hpos)
  have hnext : ¬ (l[s.pos].op = 10 ∨ l[s.pos].op = 13 ∨ l[s.pos].op = 15) → s.pos + 1 < l.length := fun he => by
    rcases Nat.lt_or_ge (s.pos + 1) l.length with h1 | h1
    · exact h1
    · have := hlast (by omega)
      simp only [endB, decide_eq_true_eq] at this
      exact absurd this he
  have hlen8 := h.ok.regs
  have hm := h.mem
  clear hlast
  revert hok hml
  unfold step
  rw [hin]
  generalize hi : l[s.pos] = i at *
  generalize hj : l.getD (s.pos + 1) default = j at *
  intro hok hml
  simp only at hok hml ⊢
  have hsn : sndB i = true ↔ (i.op = 5 ∧ i.a = 4 ∧ i.b = 4 ∧ i.c = 5) := by simp [sndB]
  have hsj : sndB j = true ↔ (j.op = 5 ∧ j.a = 4 ∧ j.b = 4 ∧ j.c = 5) := by simp [sndB]
  rw [hsn] at h4
  have ha0 := hI.a0
  have hc := hI.c0
  have h45 : i.op ≠ 5 → (64 * r ≤ s.regs.getD 4 0 ∧ s.regs.getD 4 0 ≤ 64 * r + 63) := fun h5 => by
    rcases h4 with h4 | h4
    · exact h4
    · exact absurd h4.2.1 h5
  by_cases o8 : i.op = 8
  · have hb : i.b = 4 := f3 (.inl o8)
    have h4' := h45 (by omega)
    have n1 := hnext (by omega)
    have a56 := f1 (by omega) (by omega)
    have a4 : i.a ≠ 4 := fun e => by have := (f2 (by omega) (by omega) e (by omega)).1.1; omega
    clear f1 f2 f3 f4 h4 h45 hnext
    have hx : rg s i.b = s.regs.getD 4 0 := by unfold rg; rw [hb]; rfl
    have hlt : rg s i.b < s.mem.length := by rw [hx, hm]; omega
    rw [if_pos o8, if_pos hlt] at hok hml ⊢
    refine ⟨by simp, fun _ => ⟨hok, n1, h.back, ?_, ?_, ?_, hml⟩, fun _ _ => rfl⟩
    · show (s.regs.set _ _).getD 5 0 = _
      rw [getD_set, if_neg (by omega)]; exact h.r5
    · show (s.regs.set _ _).getD 6 0 = _
      rw [getD_set, if_neg (by omega)]; exact h.r6
    · left
      show _ ≤ (s.regs.set _ _).getD 4 0 ∧ (s.regs.set _ _).getD 4 0 ≤ _
      rw [getD_set, if_neg (by omega)]; exact h4'
  by_cases o9 : i.op = 9
  · have hb : i.b = 4 := f3 (.inr o9)
    have h4' := h45 (by omega)
    have n1 := hnext (by omega)
    clear f1 f2 f3 f4 h4 h45 hnext
    have hx : rg s i.b = s.regs.getD 4 0 := by unfold rg; rw [hb]; rfl
    have hlt : rg s i.b < s.mem.length := by rw [hx, hm]; omega
    rw [if_neg o8, if_pos o9, if_pos hlt] at hok hml ⊢
    refine ⟨by simp, fun _ => ⟨hok, n1, h.back, h.r5, h.r6, .inl h4', hml⟩, fun q hq => ?_⟩
    show (s.mem.set _ _).getD q 0 = _
    rw [getD_set, if_neg (by omega)]
  by_cases o10 : i.op = 10
  · have h4' := h45 (by omega)
    have hcl := f4 (.inl o10)
    clear f1 f2 f3 f4 h4 h45 hnext
    rw [if_neg o8, if_neg o9, if_pos o10] at hok hml ⊢
    exact ⟨by simp, fun _ => ⟨hok, by show i.c.toNat < _; omega, h.back, h.r5, h.r6, .inl h4', hml⟩, fun _ _ => rfl⟩
  by_cases o11 : i.op = 11
  · have h4' := h45 (by omega)
    have hcl := f4 (.inr (.inl o11))
    have hct : i.c.toNat < l.length := by omega
    have n1 := hnext (by omega)
    clear f1 f2 f3 f4 h4 h45 hnext
    rw [if_neg o8, if_neg o9, if_neg o10, if_pos o11] at hok hml ⊢
    exact ⟨by simp, fun _ => ⟨hok, by (show (if rg s i.a = 0 then i.c.toNat else s.pos + 1) < l.length); split; exact hct; exact n1, h.back, h.r5, h.r6, .inl h4', hml⟩, fun _ _ => rfl⟩
  by_cases o12 : i.op = 12
  · have h4' := h45 (by omega)
    have hcl := f4 (.inr (.inr o12))
    have n1 := hnext (by omega)
    clear f1 f2 f3 f4 h4 h45 hnext
    rw [if_neg o8, if_neg o9, if_neg o10, if_neg o11, if_pos o12] at hok hml ⊢
    by_cases hb : s.back.length = 16
    · rw [if_pos hb] at hok hml ⊢
      exact ⟨by simp, fun h0 => by simp at h0, fun _ _ => rfl⟩
    · rw [if_neg hb] at hok hml ⊢
      refine ⟨by simp, fun _ => ⟨hok, by show i.c.toNat < _; omega, ?_, h.r5, h.r6, .inl h4', hml⟩, fun _ _ => rfl⟩
      intro p hp
      rcases List.mem_append.1 hp with hp | hp
      · exact h.back p hp
      · simp at hp; omega
  by_cases o13 : i.op = 13
  · have h4' := h45 (by omega)
    clear f1 f2 f3 f4 h4 h45 hnext
    rw [if_neg o8, if_neg o9, if_neg o10, if_neg o11, if_neg o12, if_pos o13] at hok hml ⊢
    by_cases hb : s.back.length = 0
    · rw [if_pos hb] at hok hml ⊢
      exact ⟨by simp, fun h0 => by simp at h0, fun _ _ => rfl⟩
    · rw [if_neg hb] at hok hml ⊢
      refine ⟨by simp, fun _ => ⟨hok, ?_, fun p hp => h.back p (List.mem_of_mem_take hp), h.r5, h.r6, .inl h4', hml⟩, fun _ _ => rfl⟩
      show s.back.getD (s.back.length - 1) 0 < _
      rw [List.getD_eq_getElem?_getD, List.getElem?_eq_getElem (by omega)]
      exact h.back _ (List.getElem_mem _)
  by_cases o14 : i.op = 14
  · have h4' := h45 (by omega)
    have n1 := hnext (by omega)
    clear f1 f2 f3 f4 h4 h45 hnext
    rw [if_neg o8, if_neg o9, if_neg o10, if_neg o11, if_neg o12, if_neg o13, if_pos o14] at hok hml ⊢
    by_cases hb : s.told.length = 100
    · rw [if_pos hb] at hok hml ⊢
      exact ⟨by simp, fun h0 => by simp at h0, fun _ _ => rfl⟩
    · rw [if_neg hb] at hok hml ⊢
      exact ⟨by simp, fun _ => ⟨hok, n1, h.back, h.r5, h.r6, .inl h4', hml⟩, fun _ _ => rfl⟩
  by_cases o15 : i.op = 15
  · rw [if_neg o8, if_neg o9, if_neg o10, if_neg o11, if_neg o12, if_neg o13, if_neg o14, if_pos o15] at hok hml ⊢
    exact ⟨by simp, fun h0 => by simp at h0, fun _ _ => rfl⟩
  rw [if_neg o8, if_neg o9, if_neg o10, if_neg o11, if_neg o12, if_neg o13, if_neg o14, if_neg o15] at hok hml ⊢
  have q1 := hI.op1
  have q2 := hI.op2
  have n1 := hnext (by omega)
  have a56 := f1 (by omega) (by omega)
  have f2' := f2 (by omega) (by omega)
  clear f1 f2 f3 f4 hnext
  refine ⟨by simp, fun _ => ⟨hok, n1, h.back, ?_, ?_, ?_, hml⟩, fun _ _ => rfl⟩
  · show (s.regs.set _ _).getD 5 0 = _
    clear h4 h45 f2'
    rw [getD_set, if_neg (by omega)]; exact h.r5
  · show (s.regs.set _ _).getD 6 0 = _
    clear h4 h45 f2'
    rw [getD_set, if_neg (by omega)]; exact h.r6
  · by_cases a4 : i.a = 4
    · have hset : ∀ v, ((s.regs.set i.a.toNat v).getD 4 0) = v := fun v => by
        clear h4 h45 f2'
        rw [getD_set, if_pos (by omega)]
      show (_ ≤ (s.regs.set i.a.toNat _).getD 4 0 ∧ (s.regs.set i.a.toNat _).getD 4 0 ≤ _) ∨ ((s.regs.set i.a.toNat _).getD 4 0 ≤ _ ∧ sndB (l.getD (s.pos + 1) default) = true)
      rw [hset, hj]
      by_cases hs2 : i.op = 5 ∧ i.a = 4 ∧ i.b = 4 ∧ i.c = 5
      · left
        have e1 : rg s i.b = s.regs.getD 4 0 := by unfold rg; rw [hs2.2.2.1]; rfl
        have e2 : rg s (i.c % 8) = 64 * r := by unfold rg; rw [hs2.2.2.2]; exact h.r5
        have e3 : reck (rg s i.b) (rg s (i.c % 8)) i.op.toNat i.c.toNat = s.regs.getD 4 0 ||| 64 * r := by rw [e1, e2, hs2.1]; rfl
        rw [e3]
        clear f2' h45
        rcases h4 with h4 | h4
        · rw [or_base' r _ h4.1 h4.2]; exact h4
        · rw [or_base r _ (by omega)]; omega
      · right
        have hf := f2' a4 hs2
        have e2 : rg s (i.c % 8) = 63 := by unfold rg; rw [hf.1.2.2]; exact h.r6
        have e3 : reck (rg s i.b) (rg s (i.c % 8)) i.op.toNat i.c.toNat = rg s i.b &&& 63 := by rw [e2, hf.1.1]; rfl
        rw [e3, hsj]
        exact ⟨Nat.and_le_right, hf.2⟩
    · left
      have h4' : 64 * r ≤ s.regs.getD 4 0 ∧ s.regs.getD 4 0 ≤ 64 * r + 63 := by
        rcases h4 with h4 | h4
        · exact h4
        · exact absurd h4.2.2.1 a4
      show _ ≤ (s.regs.set _ _).getD 4 0 ∧ (s.regs.set _ _).getD 4 0 ≤ _
      clear h4 h45 f2'
      rw [getD_set, if_neg (by omega)]
      exact h4'

/-- Two machines that are one but for the words outside region r. -/
structure Agree (r : Nat) (s t : Mc) : Prop where
  pos : s.pos = t.pos
  back : s.back = t.back
  regs : s.regs = t.regs
  told : s.told = t.told
  len : s.mem.length = t.mem.length
  mem : ∀ j, 64 * r ≤ j → j ≤ 64 * r + 63 → s.mem.getD j 0 = t.mem.getD j 0
theorem step_agree {r : Nat} {l : List Ins} {s t : Mc} (_hr : r < 16) (ht : Trusted l) (h : Keeps r l s) (hk : Agree r s t) :
    (step l s).2 = (step l t).2 ∧ Agree r (step l s).1 (step l t).1 := by
  have hpos := h.pos
  have hin : l[s.pos]? = some l[s.pos] := List.getElem?_eq_getElem hpos
  obtain ⟨_, _, f3, _⟩ := badB_false (ht.each s.pos hpos)
  have hgd : l.getD s.pos default = l[s.pos] := by rw [List.getD_eq_getElem?_getD, hin]; rfl
  have h4 := h.r4
  have h16 := h.mem
  rw [hgd] at h4
  obtain ⟨tp, tb, tr, tt, tm⟩ := t
  obtain ⟨sp, sb, sr, st, sm⟩ := s
  obtain ⟨e1, e2, e3, e4, e5, e6⟩ := hk
  simp only at e1 e2 e3 e4 e5 e6 h16 h4
  subst e1 e2 e3 e4
  unfold step
  rw [hin]
  generalize l[sp] = i at *
  have hrg : ∀ z, rg ⟨sp, sb, sr, st, sm⟩ z = rg ⟨sp, sb, sr, st, tm⟩ z := fun _ => rfl
  have hB : i.op = 8 ∨ i.op = 9 → 64 * r ≤ rg ⟨sp, sb, sr, st, tm⟩ i.b ∧ rg ⟨sp, sb, sr, st, tm⟩ i.b ≤ 64 * r + 63 := fun ho => by
    have hb := f3 ho
    have hx : rg ⟨sp, sb, sr, st, tm⟩ i.b = sr.getD 4 0 := by unfold rg; rw [hb]; rfl
    rw [hx]
    rcases h4 with h4 | h4
    · exact h4
    · simp [sndB] at h4; omega
  clear f3 h4
  simp only [hrg]
  have hme : Agree r ⟨sp, sb, sr, st, sm⟩ ⟨sp, sb, sr, st, tm⟩ := ⟨rfl, rfl, rfl, rfl, e5, e6⟩
  repeat' split
  all_goals first
    | exact ⟨rfl, rfl, rfl, rfl, rfl, e5, e6⟩
    | (exfalso; simp only at *; omega)
    | skip
  · rename_i o8 _ _
    have := hB (.inl o8)
    exact ⟨rfl, rfl, rfl, by simp only; rw [e6 _ this.1 this.2], rfl, e5, e6⟩
  · refine ⟨rfl, rfl, rfl, rfl, rfl, by simpa using e5, fun j h1 h2 => ?_⟩
    simp only [getD_set]
    rw [e5, e6 j h1 h2]

theorem runs_trust {r : Nat} {l : List Ins} (hr : r < 16) (ht : Trusted l) : ∀ (n : Nat) (s t : Mc), Keeps r l s → Agree r s t →
    (runs l n s).2 ≠ 3 ∧ (runs l n s).2 ≠ 0 ∧ (runs l n s).2 = (runs l n t).2 ∧ Agree r (runs l n s).1 (runs l n t).1 ∧ ∀ j, j < 64 * r ∨ 64 * r + 64 ≤ j → (runs l n s).1.mem.getD j 0 = s.mem.getD j 0
  | 0, s, t, h, hk => ⟨by simp [runs], by simp [runs], rfl, hk, fun _ _ => rfl⟩
  | n + 1, s, t, h, hk => by
    obtain ⟨a1, a2, a3⟩ := step_keeps hr ht h
    obtain ⟨b1, b2⟩ := step_agree hr ht h hk
    by_cases h0 : (step l s).2 = 0
    · rw [runs_go h0, runs_go (by rw [← b1]; exact h0)]
      obtain ⟨c1, c2, c3, c4, c5⟩ := runs_trust hr ht n _ _ (a2 h0) b2
      exact ⟨c1, c2, c3, c4, fun j hj => (c5 j hj).trans (a3 j hj)⟩
    · rw [runs_stop h0, runs_stop (by rw [← b1]; exact h0)]
      exact ⟨a1, h0, b1, b2, a3⟩
end Go.Proofs.YtdjamdbamkhblacDoor
