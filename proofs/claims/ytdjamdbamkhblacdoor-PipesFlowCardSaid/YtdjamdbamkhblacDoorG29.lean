/- A script with acts put in that the first module's device answers leaves files, pipes, processes and the other words as without them: plain mathematics. A kernel without modules, its names, and acts that fail: plain mathematics. The walk of picked: no condition but that the number is one of 64 bits. What K.Data and K.Acts make of raw things, and what TopQuiet puts in: plain mathematics. The walk of the machine's loads and stores: no condition. -/
import Derived.Test.YtdjamdbamkhblacDoorG28
import Derived.Test.YtdjamdbamkhblacDoorG27
import Derived.Test.YtdjamdbamkhblacDoorG01
import Derived.Test.YtdjamdbamkhblacDoorG17
import Derived.Deep.RegionLaw
namespace Go.Proofs.YtdjamdbamkhblacDoor
open Go.RowKit
def oneS : ByteArray := ⟨#[111, 110, 101]⟩
/-- The first process has, as its first end, the device that the first module answers. -/
structure Dev0 (k : Krn) : Prop where
  live : (k.procs.getD 0 default).live = true
  opn : (k.procs.getD 0 default).ends.getD 0 default = ⟨1, 0, 0⟩
  kind : (k.nodes.getD 0 default).kind = 2
  unit : (k.nodes.getD 0 default).unit = 0
  name : (k.nodes.getD 0 default).name = oneS
theorem setEnd_other (k : Krn) (p i : Nat) (x : Opn) (h : ¬ (p = 0 ∧ i = 0)) : ((setEnd k p i x).procs.getD 0 default).ends.getD 0 default = (k.procs.getD 0 default).ends.getD 0 default ∧ ((setEnd k p i x).procs.getD 0 default).live = (k.procs.getD 0 default).live := by
  unfold setEnd
  simp only [List.getD_eq_getElem?_getD, List.getElem?_set]
  by_cases hp : p = 0
  · subst hp
    have hi : i ≠ 0 := fun e => h ⟨rfl, e⟩
    by_cases h0 : 0 < k.procs.length
    · simp [h0, hi]
    · simp at h0
      simp [h0]
  · simp [hp]
theorem Dev0.of_procs {k k' : Krn} (h : Dev0 k) (h1 : (k'.procs.getD 0 default).ends.getD 0 default = (k.procs.getD 0 default).ends.getD 0 default) (h2 : (k'.procs.getD 0 default).live = (k.procs.getD 0 default).live) (h3 : k'.nodes.getD 0 default = k.nodes.getD 0 default) : Dev0 k' :=
  ⟨h2.trans h.live, h1.trans h.opn, by rw [h3]; exact h.kind, by rw [h3]; exact h.unit, by rw [h3]; exact h.name⟩
theorem Dev0.setEnd {k : Krn} (h : Dev0 k) {p i : Nat} {x : Opn} (hn : ¬ (p = 0 ∧ i = 0)) : Dev0 (setEnd k p i x) :=
  h.of_procs (setEnd_other k p i x hn).1 (setEnd_other k p i x hn).2 rfl
theorem Dev0.tidy {k : Krn} (h : Dev0 k) : Dev0 (tidyK k) := by
  refine h.of_procs rfl rfl ?_
  unfold tidyK
  simp only [List.getD_eq_getElem?_getD, mapI_at, Nat.zero_add]
  cases hk : k.nodes[0]? with
  | none => rfl
  | some x =>
    have hn := h.name
    rw [List.getD_eq_getElem?_getD, hk, Option.getD_some] at hn
    simp only [Option.map_some, Option.getD_some]
    unfold tidyN
    rw [hn]
    rfl
theorem Dev0.setNod {k : Krn} (h : Dev0 k) {i : Nat} {x : Nod} (hi : i ≠ 0) : Dev0 (setNod k i x) := by
  refine h.of_procs rfl rfl ?_
  rw [setNod_getD, if_neg (fun e => hi e.1)]
theorem Dev0.mem {k : Krn} (h : Dev0 k) {m : List Int} : Dev0 { k with mem := m } := ⟨h.live, h.opn, h.kind, h.unit, h.name⟩
theorem Dev0.procs_set {k : Krn} (h : Dev0 k) {i : Nat} {p : Prc} (hi : i ≠ 0) : Dev0 { k with procs := k.procs.set i p } := by
  refine h.of_procs ?_ ?_ rfl <;> simp [List.getD_eq_getElem?_getD, hi]
theorem askK_mem {k k' : Krn} {u n v : Nat} (h : askK k u n = some (v, k')) : ∃ m, k' = { k with mem := m } := by
  unfold askK at h
  split at h
  split at h
  · cases h; exact ⟨_, rfl⟩
  · cases h
theorem askAll_mem : ∀ (l : List UInt8) (k : Krn) (u : Nat), ∃ m, (askAll k u l).2 = { k with mem := m }
  | [], k, u => ⟨_, rfl⟩
  | c :: r, k, u => by
    unfold askAll
    cases h : askK k u c.toNat with
    | none => exact ⟨_, rfl⟩
    | some x =>
      obtain ⟨v, k'⟩ := x
      obtain ⟨m, rfl⟩ := askK_mem h
      obtain ⟨m', e⟩ := askAll_mem r { k with mem := m } u
      exact ⟨m', e⟩
/-- An act that leaves that end alone. -/
structure Leaves (a : Akt) : Prop where
  k1 : 2 ≤ a.kind
  k11 : a.kind ≤ 11
  name : a.name ≠ oneS
  exit : a.kind = 11 → a.p ≠ 0
  keep : ¬ (a.p = 0 ∧ a.n = 0 ∧ 6 ≤ a.kind ∧ a.kind ≤ 8)
theorem free_ne0 {l : List Opn} {j : Nat} (hj : j < l.length) (hk : l[j].kind = 0) (h0 : (l.getD 0 default).kind ≠ 0) : j ≠ 0 := fun e => by
  subst e
  rw [getD_eq hj] at h0
  exact h0 hk
theorem do_dev {k : Krn} (_ok : KOk k) (h : Dev0 k) {a : Akt} (ha : Leaves a) : Dev0 (doK k a).1 := by
  have h0 : ((k.procs.getD 0 default).ends.getD 0 default).kind ≠ 0 := by rw [h.opn]; decide
  have hfr : ∀ {p j : Nat} (hj : j < (k.procs.getD p default).ends.length), (k.procs.getD p default).ends[j].kind = 0 → ¬ (p = 0 ∧ j = 0) := fun {p j} hj hk e => by
    obtain ⟨rfl, rfl⟩ := e
    exact free_ne0 hj hk h0 rfl
  have mk : ∀ x : Nod, Dev0 (makeK k a.name x).1 := fun x => by
    unfold makeK
    split
    case isFalse => exact h
    split
    case isTrue => exact h
    split
    case isTrue => exact h
    split
    case isTrue => exact h
    rename_i hf
    obtain ⟨i, hi, he, hp⟩ := idxF_pos (p := fun x : Nod => x.kind == 0) (l := k.nodes) (k := 0) (by unfold freeN at hf; omega)
    have hfi : freeN k = (i : Int) := by unfold freeN; rw [he]; simp
    rw [hfi, Int.toNat_natCast]
    refine h.setNod fun e => ?_
    subst e
    have hk := h.kind
    rw [getD_eq hi] at hk
    simp [hk] at hp
  obtain ⟨a1, a11, an, ae, ak⟩ := ha
  unfold doK
  rw [if_neg (by omega)]
  split
  · exact mk _
  split
  · exact mk _
  split
  · unfold unlinkK
    split
    · exact h
    · rename_i hf
      obtain ⟨i, hi, he, _, hn⟩ := findK_pos (k := k) (s := a.name) (by omega)
      rw [he, Int.toNat_natCast]
      refine (h.setNod fun e => ?_).tidy
      subst e
      have := h.name
      rw [getD_eq hi] at this
      exact an (hn.symm.trans this)
  split
  case isFalse => exact h
  rename_i hc
  unfold byK
  split
  · unfold openK
    split
    case isFalse => exact h
    split
    case isTrue => exact h
    split
    case isTrue => exact h
    rename_i hf
    obtain ⟨j, hj, hje, hjk⟩ := freeE_pos (l := (k.procs.getD a.p.toNat default).ends) (by omega)
    rw [hje, Int.toNat_natCast]
    exact h.setEnd (hfr hj hjk)
  split
  · unfold pipeK
    simp only
    split
    · exact h
    rename_i hf
    obtain ⟨j, hj, hje, hjk⟩ := freeE_pos (l := (k.procs.getD a.p.toNat default).ends) (by omega)
    rw [hje, Int.toNat_natCast]
    have h1 : Dev0 (YtdjamdbamkhblacDoor.setEnd k a.p.toNat j ⟨2, freePipe k, 0⟩) := h.setEnd (hfr hj hjk)
    generalize YtdjamdbamkhblacDoor.setEnd k a.p.toNat j ⟨2, freePipe k, 0⟩ = k1 at h1
    split
    · exact h
    rename_i hf2
    obtain ⟨j', hj', hje', hjk'⟩ := freeE_pos (l := (k1.procs.getD a.p.toNat default).ends) (by omega)
    rw [hje', Int.toNat_natCast]
    refine h1.setEnd fun e => ?_
    have h10 : ((k1.procs.getD a.p.toNat default).ends.getD 0 default).kind ≠ 0 := by rw [e.1, h1.opn]; decide
    exact free_ne0 hj' hjk' h10 e.2
  split
  · unfold forkK
    split
    · exact h
    rename_i hf
    obtain ⟨i, hi, he, hd⟩ := idxF_pos (p := fun p : Prc => !p.live) (l := k.procs) (k := 0) (by unfold freeP at hf; omega)
    have hfi : freeP k = (i : Int) := by unfold freeP; rw [he]; simp
    rw [hfi, Int.toNat_natCast]
    refine h.procs_set fun e => ?_
    subst e
    have hl := h.live
    rw [getD_eq hi] at hl
    simp [hl] at hd
  split
  · rename_i h11
    have hp0 := ae h11
    exact (h.procs_set (by omega)).tidy
  simp only
  split
  · exact h
  rename_i hn
  split
  · rename_i h6
    exact (h.setEnd (fun e => ak ⟨by omega, by omega, by omega, by omega⟩)).tidy
  split
  · exact h
  split
  · rename_i h7
    have hpn : ¬ (a.p.toNat = 0 ∧ a.n.toNat = 0) := fun e => ak ⟨by omega, by omega, by omega, by omega⟩
    unfold readK
    simp only
    split
    · exact h
    split
    · split
      · exact h
      · exact h.of_procs rfl rfl rfl
    split
    · cases hq : askK k (k.nodes.getD ((k.procs.getD a.p.toNat default).ends.getD a.n.toNat default).node.toNat default).unit.toNat 256 with
      | none => exact h
      | some x =>
        obtain ⟨v, k'⟩ := x
        obtain ⟨m, rfl⟩ := askK_mem hq
        exact h.mem
    split
    · exact h
    · exact h.setEnd hpn
  · rename_i h5 h9 h10 h11 h6 hrw h7
    have h8 : a.kind = 8 := by omega
    have hpn : ¬ (a.p.toNat = 0 ∧ a.n.toNat = 0) := fun e => ak ⟨by omega, by omega, by omega, by omega⟩
    unfold writeK
    simp only
    split
    · exact h
    split
    · split
      · exact h
      split
      · exact h
      · exact h.of_procs rfl rfl rfl
    split
    · obtain ⟨m, e⟩ := askAll_mem a.data.data.toList k (k.nodes.getD ((k.procs.getD a.p.toNat default).ends.getD a.n.toNat default).node.toNat default).unit.toNat
      rw [e]
      split
      · exact h.mem
      · exact h.mem
    rename_i hd2
    split
    · exact h
    · refine Dev0.setEnd (h.setNod fun e => ?_) hpn
      rw [e] at hd2
      exact hd2 h.kind
/-- An act on that end that the device answers. -/
def Asks (a : Akt) : Prop := (∃ s : ByteArray, a = ⟨8, 0, 0, 0, noS, s⟩ ∧ 1 ≤ s.size ∧ s.size ≤ 100) ∨ ∃ m : Nat, a = ⟨7, 0, 0, m, noS, noS⟩ ∧ 1 ≤ m ∧ m ≤ 100
theorem asks_quiet {k h : Krn} (oh : KOk h) (hl : Like k h) (hd : Dev0 h) {a : Akt} (ha : Asks a) : Like k (doK h a).1 ∧ Dev0 (doK h a).1 := by
  have hn : h.nodes.getD (0 : Int).toNat default = h.nodes.getD 0 default := rfl
  have hmods : 0 < h.mods.length := by
    have := nod_ok oh (i := 0) (by omega)
    obtain ⟨u1, u2, _⟩ := dev_unit this hd.kind
    omega
  have hb : ∀ (k' : Krn) (x : Opn), x.kind ≠ 0 → ¬ ((0 : Int) < 0 ∨ (6 : Int) ≤ 0 ∨ x.kind = 0) := fun _ x hx e => by omega
  rcases ha with ⟨s, rfl, s1, s2⟩ | ⟨m, rfl, m1, m2⟩
  · have e : doK h ⟨8, 0, 0, 0, noS, s⟩ = writeK h 0 0 s := by
      unfold doK
      rw [if_neg (by simp), if_neg (by simp), if_neg (by simp), if_neg (by simp), if_pos ⟨by simp, by simp, hd.live⟩]
      unfold byK
      have e0 : (h.procs.getD (0 : Int).toNat default).ends.getD (0 : Int).toNat default = ⟨1, 0, 0⟩ := hd.opn
      simp only [e0]
      rw [if_neg (by simp), if_neg (by simp), if_neg (by simp), if_neg (by simp), if_neg (by simp), if_neg (by simp), if_neg (by simp), if_neg (by simp)]
      rfl
    rw [e]
    unfold writeK
    simp only [hd.opn, hn]
    have he : ¬ (empS s = true ∨ 100 < s.size) := by
      unfold empS
      rw [beq_iff_eq]
      omega
    rw [if_neg he, if_neg (by decide), if_pos hd.kind, hd.unit]
    have hq := askAll_quiet s.data.toList oh hl hmods
    obtain ⟨m', em⟩ := askAll_mem s.data.toList h 0
    have hdd : Dev0 (askAll h 0 s.data.toList).2 := by rw [em]; exact hd.mem
    split
    · exact ⟨hq, hdd⟩
    · exact ⟨hq, hdd⟩
  · have e : doK h ⟨7, 0, 0, m, noS, noS⟩ = readK h 0 0 m := by
      unfold doK
      rw [if_neg (by simp), if_neg (by simp), if_neg (by simp), if_neg (by simp), if_pos ⟨by simp, by simp, hd.live⟩]
      unfold byK
      have e0 : (h.procs.getD (0 : Int).toNat default).ends.getD (0 : Int).toNat default = ⟨1, 0, 0⟩ := hd.opn
      simp only [e0]
      rw [if_neg (by simp), if_neg (by simp), if_neg (by simp), if_neg (by simp), if_neg (by simp), if_neg (by simp), if_neg (by simp), if_pos trivial]
      rfl
    rw [e]
    unfold readK
    simp only [hd.opn, hn]
    rw [if_neg (by omega), if_neg (by decide), if_pos hd.kind, hd.unit]
    have hq := ask_quiet (n := 256) oh hl hmods (by omega)
    unfold afterK at hq
    have e0 : (0 : Int).toNat = 0 := rfl
    rw [e0]
    cases hask : askK h 0 256 with
    | none => exact ⟨hl, hd⟩
    | some x =>
      obtain ⟨v, k'⟩ := x
      rw [hask] at hq
      obtain ⟨m', rfl⟩ := askK_mem hask
      exact ⟨hq, hd.mem⟩
/-- The one list is the other with acts put in that the device answers. -/
def Woven : List Akt → List Akt → Prop
  | p, [] => p = []
  | p, b :: q => (Asks b ∧ Woven p q) ∨ (∃ a p', p = a :: p' ∧ a = b ∧ Leaves a ∧ Woven p' q)
theorem asks_kind {a : Akt} (h : Asks a) : 1 ≤ a.kind ∧ a.kind ≤ 11 := by
  rcases h with ⟨s, rfl, _⟩ | ⟨m, rfl, _⟩ <;> simp
theorem woven_like : ∀ (q p : List Akt) {k h : Krn}, Woven p q → KOk k → KOk h → Like k h → Dev0 k → Dev0 h → Like (runK k p).1 (runK h q).1 ∧ p.length ≤ q.length
  | [], p, _, _, hw, _, _, hl, _, _ => by
    have : p = [] := hw
    subst this
    exact ⟨hl, Nat.le_refl _⟩
  | b :: q, p, k, h, hw, ok, oh, hl, dk, dh => by
    rcases hw with ⟨h1, h2⟩ | ⟨a, p', rfl, rfl, h3, h4⟩
    · obtain ⟨l1, d1⟩ := asks_quiet oh hl dh h1
      obtain ⟨r1, r2⟩ := woven_like q p h2 ok (do_ok oh b (asks_kind h1)) l1 dk d1
      rw [runK_cons oh (asks_kind h1)]
      exact ⟨r1, by simp; omega⟩
    · have hk : 1 ≤ a.kind ∧ a.kind ≤ 11 := ⟨by have := h3.k1; omega, h3.k11⟩
      obtain ⟨r1, r2⟩ := woven_like q p' h4 (do_ok ok a hk) (do_ok oh a hk) (do_like ok oh hl a (by have := h3.k1; omega) hk) (do_dev ok dk h3) (do_dev oh dh h3)
      rw [runK_cons ok hk, runK_cons oh hk]
      exact ⟨r1, by simp; omega⟩
end Go.Proofs.YtdjamdbamkhblacDoor
namespace Go.Proofs.YtdjamdbamkhblacDoor
open Go.RowKit
/-- Every name of k' is one of k's, or none, or s. -/
def NamesFrom (s : ByteArray) (k k' : Krn) : Prop := k'.mods = k.mods ∧ ∀ x ∈ k'.nodes, x.name = noS ∨ x.name = s ∨ ∃ y ∈ k.nodes, y.name = x.name
theorem NamesFrom.refl (s : ByteArray) (k : Krn) : NamesFrom s k k := ⟨rfl, fun x hx => .inr (.inr ⟨x, hx, rfl⟩)⟩
theorem NamesFrom.same {s : ByteArray} {k k' : Krn} (h1 : k'.mods = k.mods) (h2 : k'.nodes = k.nodes) : NamesFrom s k k' := ⟨h1, fun x hx => .inr (.inr ⟨x, by rw [← h2]; exact hx, rfl⟩)⟩
theorem NamesFrom.trans {s : ByteArray} {k k' k'' : Krn} (h : NamesFrom s k k') (h' : NamesFrom s k' k'') : NamesFrom s k k'' :=
  ⟨h'.1.trans h.1, fun x hx => by
    rcases h'.2 x hx with e | e | ⟨y, hy, e⟩
    · exact .inl e
    · exact .inr (.inl e)
    · rw [← e]; exact h.2 y hy⟩
theorem NamesFrom.tidy (s : ByteArray) (k : Krn) : NamesFrom s k (tidyK k) := ⟨rfl, fun x hx => by
  obtain ⟨i, hi, rfl⟩ := List.mem_iff_getElem.1 hx
  have hi' : i < k.nodes.length := by
    have : (tidyK k).nodes.length = k.nodes.length := mapI_length _ _ _
    omega
  have e : (tidyK k).nodes[i] = tidyN k.procs i k.nodes[i] := mapI_get _ _ _ hi
  rw [e]
  unfold tidyN
  split
  · exact .inl rfl
  · exact .inr (.inr ⟨_, List.getElem_mem hi', rfl⟩)⟩
theorem NamesFrom.setNod {s : ByteArray} {k : Krn} {i : Nat} {x : Nod} (h : x.name = noS ∨ x.name = s ∨ ∃ y ∈ k.nodes, y.name = x.name) : NamesFrom s k (setNod k i x) := ⟨rfl, fun y hy => by
  rcases List.mem_or_eq_of_mem_set hy with h1 | h1
  · exact .inr (.inr ⟨y, h1, rfl⟩)
  · subst h1; exact h⟩
theorem getD_name (k : Krn) (i : Nat) : (k.nodes.getD i default).name = noS ∨ ∃ y ∈ k.nodes, y.name = (k.nodes.getD i default).name := by
  by_cases hi : i < k.nodes.length
  · rw [getD_eq hi]; exact .inr ⟨_, List.getElem_mem hi, rfl⟩
  · rw [List.getD_eq_getElem?_getD, List.getElem?_eq_none (by omega)]; exact .inl rfl
theorem askK_from {s : ByteArray} {k k' : Krn} {u n v : Nat} (h : askK k u n = some (v, k')) : NamesFrom s k k' := by
  unfold askK at h
  split at h
  split at h
  · cases h; exact NamesFrom.same rfl rfl
  · cases h
theorem askAll_from {s : ByteArray} : ∀ (l : List UInt8) (k : Krn) (u : Nat), NamesFrom s k (askAll k u l).2
  | [], k, u => NamesFrom.refl s k
  | c :: r, k, u => by
    unfold askAll
    cases h : askK k u c.toNat with
    | none => exact NamesFrom.refl s k
    | some x =>
      obtain ⟨v, k'⟩ := x
      exact (askK_from h).trans (askAll_from r k' u)
theorem do_names (k : Krn) (a : Akt) (ha : a.kind ≠ 1) : NamesFrom a.name k (doK k a).1 := by
  have same : ∀ {k' : Krn}, k'.mods = k.mods → k'.nodes = k.nodes → NamesFrom a.name k k' := fun h1 h2 => NamesFrom.same h1 h2
  have mk : ∀ x : Nod, NamesFrom a.name k (makeK k a.name x).1 := fun x => by
    unfold makeK
    split
    case isFalse => exact NamesFrom.refl _ _
    split
    case isTrue => exact NamesFrom.refl _ _
    split
    case isTrue => exact NamesFrom.refl _ _
    split
    case isTrue => exact NamesFrom.refl _ _
    exact NamesFrom.setNod (.inr (.inl rfl))
  unfold doK
  rw [if_neg ha]
  split
  · exact mk _
  split
  · exact mk _
  split
  · unfold unlinkK
    split
    · exact NamesFrom.refl _ _
    · exact (NamesFrom.setNod (.inl rfl)).trans (NamesFrom.tidy _ _)
  split
  case isFalse => exact NamesFrom.refl _ _
  unfold byK
  split
  · unfold openK
    split
    case isFalse => exact NamesFrom.refl _ _
    split
    case isTrue => exact NamesFrom.refl _ _
    split
    case isTrue => exact NamesFrom.refl _ _
    exact same rfl rfl
  split
  · unfold pipeK
    simp only
    split
    · exact NamesFrom.refl _ _
    split
    · exact NamesFrom.refl _ _
    · exact same rfl rfl
  split
  · unfold forkK
    split
    · exact NamesFrom.refl _ _
    · exact same rfl rfl
  split
  · unfold exitK
    exact NamesFrom.trans (k' := { k with procs := k.procs.set a.p.toNat ⟨false, List.replicate 6 default⟩ }) (same rfl rfl) (NamesFrom.tidy _ _)
  simp only
  split
  · exact NamesFrom.refl _ _
  split
  · exact NamesFrom.trans (k' := setEnd k a.p.toNat a.n.toNat default) (same rfl rfl) (NamesFrom.tidy _ _)
  split
  · exact NamesFrom.refl _ _
  split
  · unfold readK
    simp only
    split
    · exact NamesFrom.refl _ _
    split
    · split
      · exact NamesFrom.refl _ _
      · exact same rfl rfl
    split
    · cases h : askK k (k.nodes.getD ((k.procs.getD a.p.toNat default).ends.getD a.n.toNat default).node.toNat default).unit.toNat 256 with
      | none => exact NamesFrom.refl _ _
      | some x =>
        obtain ⟨v, k'⟩ := x
        exact askK_from h
    split
    · exact NamesFrom.refl _ _
    · exact same rfl rfl
  · unfold writeK
    simp only
    split
    · exact NamesFrom.refl _ _
    split
    · split
      · exact NamesFrom.refl _ _
      split
      · exact NamesFrom.refl _ _
      · exact same rfl rfl
    split
    · split
      · exact askAll_from _ _ _
      · exact askAll_from _ _ _
    split
    · exact NamesFrom.refl _ _
    · refine NamesFrom.trans (NamesFrom.setNod (i := ((k.procs.getD a.p.toNat default).ends.getD a.n.toNat default).node.toNat) (x := { (k.nodes.getD ((k.procs.getD a.p.toNat default).ends.getD a.n.toNat default).node.toNat default) with data := _ }) ?_) (NamesFrom.same rfl rfl)
      rcases getD_name k ((k.procs.getD a.p.toNat default).ends.getD a.n.toNat default).node.toNat with e | e
      · exact .inl e
      · exact .inr (.inr e)
/-- Without modules, and with names of a list alone. -/
def Bare (ns : List ByteArray) (k : Krn) : Prop := k.mods = [] ∧ ∀ x ∈ k.nodes, x.name = noS ∨ x.name ∈ ns
theorem Bare.next {ns : List ByteArray} {k : Krn} (h : Bare ns k) {a : Akt} (ha : a.kind ≠ 1) (hn : a.name = noS ∨ a.name ∈ ns) : Bare ns (doK k a).1 := by
  obtain ⟨h1, h2⟩ := do_names k a ha
  refine ⟨h1.trans h.1, fun x hx => ?_⟩
  rcases h2 x hx with e | e | ⟨y, hy, e⟩
  · exact .inl e
  · rw [e]; exact hn
  · rw [← e]; exact h.2 y hy
theorem Bare.runs {ns : List ByteArray} : ∀ (l : List Akt) {k : Krn}, Bare ns k → (∀ a ∈ l, a.kind ≠ 1 ∧ (a.name = noS ∨ a.name ∈ ns)) → Bare ns (runK k l).1
  | [], _, h, _ => h
  | a :: r, k, h, hl => by
    rw [runK]
    have ha := hl a (by simp)
    split
    · exact Bare.runs r (h.next ha.1 ha.2) (fun b hb => hl b (by simp [hb]))
    · exact Bare.runs r h (fun b hb => hl b (by simp [hb]))
theorem newK_bare (ns : List ByteArray) : Bare ns newK := ⟨rfl, fun x hx => .inl (by
  have : x = default := List.eq_of_mem_replicate hx
  rw [this]; rfl)⟩
theorem findK_bare {ns : List ByteArray} {k : Krn} (h : Bare ns k) {s : ByteArray} (h0 : s ≠ noS) (hs : s ∉ ns) : findK k s < 0 := by
  by_cases h1 : findK k s < 0
  · exact h1
  · exfalso
    obtain ⟨i, hi, _, _, hn⟩ := findK_pos (k := k) (s := s) (by omega)
    rcases h.2 _ (List.getElem_mem hi) with e | e
    · exact h0 (hn.symm.trans e)
    · rw [hn] at e; exact hs e
def gS : ByteArray := ⟨#[103]⟩
def devS : ByteArray := ⟨#[100, 101, 118]⟩
def xS : ByteArray := ⟨#[120]⟩
def zzS : ByteArray := ⟨#[122, 122]⟩
def abcS : ByteArray := ⟨#[97, 98, 99]⟩
/-- The five acts that fail. -/
def oddActs (kd : Int) : List Akt := [⟨kd, 0, 0, 0, noS, noS⟩, ⟨7, 4, 0, 0, noS, noS⟩, ⟨1, 0, 0, 0, noS, abcS⟩, ⟨3, 0, 0, 0, xS, noS⟩, ⟨4, 0, 0, 0, zzS, noS⟩]
theorem odd_runs {k : Krn} (hk : KOk k) (hb : Bare [fS, gS, devS] k) (kd : Int) (hkd : 12 ≤ kd) : runK k (oddActs kd) = (k, [ansE 3, ansE 6, ansE 5, ansE 6, ansE 6]) := by
  have hc := (kcheck_iff k).2 hk
  have h0 : doE k ⟨kd, 0, 0, 0, noS, noS⟩ = 3 := by
    unfold doE
    rw [if_pos hc, if_pos (.inr (by show 11 < kd; omega))]
  have d1 : doK k ⟨7, 4, 0, 0, noS, noS⟩ = (k, ansE 6) := by
    unfold doK
    rw [if_neg (by simp), if_neg (by simp), if_neg (by simp), if_neg (by simp), if_neg (by simp)]
  have d2 : doK k ⟨1, 0, 0, 0, noS, abcS⟩ = (k, ansE 5) := by
    unfold doK
    rw [if_pos rfl]
    unfold installK
    have : decE abcS.data.toList modCheck = (none, 5) := decE_abc modCheck
    simp only [this]
  have hx : findK k xS < 0 := findK_bare hb (by decide) (by simp only [List.mem_cons, List.not_mem_nil, or_false, not_or]; decide)
  have hz : findK k zzS < 0 := findK_bare hb (by decide) (by simp only [List.mem_cons, List.not_mem_nil, or_false, not_or]; decide)
  have d3 : doK k ⟨3, 0, 0, 0, xS, noS⟩ = (k, ansE 6) := by
    unfold doK
    rw [if_neg (by simp), if_neg (by simp), if_pos rfl]
    unfold makeK
    rw [if_pos (by decide), if_neg (by simp only; omega), if_pos ⟨rfl, .inr (by rw [hb.1]; simp)⟩]
  have d4 : doK k ⟨4, 0, 0, 0, zzS, noS⟩ = (k, ansE 6) := by
    unfold doK
    rw [if_neg (by simp), if_neg (by simp), if_neg (by simp), if_pos rfl]
    unfold unlinkK
    rw [if_pos (.inr hz)]
  unfold oddActs
  rw [runK, if_neg (by rw [h0]; decide), h0, (runK_step hk (by simp) d1).2, (runK_step hk (by simp) d2).2, (runK_step hk (by simp) d3).2, (runK_step hk (by simp) d4).2]
  rfl
end Go.Proofs.YtdjamdbamkhblacDoor
namespace Go.Proofs.YtdjamdbamkhblacDoor
open Go.RowKit

/-- A number from 0 to m - 1. -/
def pick (n : Int) (m : Nat) : Nat := (if n < 0 then -(n + 1) else n).toNat % m
theorem pick_lt (n : Int) {m : Nat} (h : 0 < m) : pick n m < m := Nat.mod_lt _ h
set_option maxHeartbeats 400000 in
theorem picked_any (n : Int) (m : Nat) (w : World) (h1 : -9223372036854775808 ≤ n) (h2 : n ≤ 9223372036854775807) (hm : 0 < m) (hm2 : (m : Int) ≤ 9223372036854775807) :
    Calls Tryd.prog 13 #[.int .i64 n, .int .i64 (m : Int)] w fun e w' => e = .returned (.int .i64 (pick n m : Nat)) ∧ w = w' := by
  have hm0 : ¬ (m : Int) = 0 := by omega
  have hm1 : (0 : Int) < (m : Int) := by omega
  have hm3 : ((m : Int) == 0) = false := by rw [beq_eq_false_iff_ne]; exact hm0
  by_cases hn : n < 0
  · have hn2 : 0 ≤ -(n + 1) := by omega
    have HP : Hid ((pick n m : Nat) = ((-(n + 1)) % (m : Int))) := by
      show ((pick n m : Nat) : Int) = _
      unfold pick
      rw [if_pos hn, Int.natCast_emod, Int.toNat_of_nonneg hn2]
    go_enter Tryd.func13, Tryd.ntmps13
    go_wp2
    go_ret
    refine ⟨ret_int ?_, rfl⟩
    rw [← Int.neg_tmod, Int.tmod_eq_emod_of_nonneg hn2]
    exact HP.out.symm
  · have hn1 : 0 ≤ n := by omega
    have HP : Hid ((pick n m : Nat) = (n % (m : Int))) := by
      show ((pick n m : Nat) : Int) = _
      unfold pick
      rw [if_neg hn, Int.natCast_emod, Int.toNat_of_nonneg hn1]
    clear hn
    go_enter Tryd.func13, Tryd.ntmps13
    go_wp2
    go_ret
    refine ⟨ret_int ?_, rfl⟩
    first | exact HP.out.symm | (rw [Int.tmod_eq_emod_of_nonneg hn1]; exact HP.out.symm)
end Go.Proofs.YtdjamdbamkhblacDoor
namespace Go.Proofs.YtdjamdbamkhblacDoor
open Go.RowKit
instance : DecidableEq Akt := fun a b =>
  if h : a.kind = b.kind ∧ a.p = b.p ∧ a.n = b.n ∧ a.m = b.m ∧ a.name = b.name ∧ a.data = b.data then .isTrue (by cases a; cases b; simp_all)
  else .isFalse (fun e => h (by subst e; exact ⟨rfl, rfl, rfl, rfl, rfl, rfl⟩))
/-- What K.Data makes of two numbers. -/
def dataTo (b : Int) (k : Nat) : List UInt8 := (List.range k).map fun i => u8 (97 + (i + pick b 26) % 26)
def dataS (a b : Int) : ByteArray := ⟨(dataTo b (1 + pick a 30)).toArray⟩
theorem dataS_size (a b : Int) : (dataS a b).size = 1 + pick a 30 := by simp [dataS, dataTo, ByteArray.size]
theorem dataS_le (a b : Int) : 1 ≤ (dataS a b).size ∧ (dataS a b).size ≤ 30 := by
  rw [dataS_size]
  have := pick_lt a (m := 30) (by omega)
  omega
def nameA (c : Int) : ByteArray := if pick c 3 = 0 then fS else if pick c 3 = 1 then gS else devS
theorem nameA_mem (c : Int) : nameA c ∈ [fS, gS, devS] := by
  unfold nameA
  split
  · simp
  split <;> simp
/-- An act of K.Acts. -/
def actI (r : Ins) : Akt :=
  if pick r.op 30 < 2 then ⟨2, 0, 0, 0, nameA r.c, noS⟩
  else if pick r.op 30 = 2 then ⟨4, 0, 0, 0, nameA r.c, noS⟩
  else if pick r.op 30 < 8 then ⟨5, (pick r.a 3 : Nat), 0, 0, nameA r.c, noS⟩
  else if pick r.op 30 < 10 then ⟨6, (pick r.a 3 : Nat), (pick r.b 6 : Nat), 0, noS, noS⟩
  else if pick r.op 30 < 17 then ⟨7, (pick r.a 3 : Nat), (pick r.b 6 : Nat), (1 + pick r.c 30 : Nat), noS, noS⟩
  else if pick r.op 30 < 24 then ⟨8, (pick r.a 3 : Nat), (pick r.b 6 : Nat), 0, noS, dataS r.c r.b⟩
  else if pick r.op 30 < 26 then ⟨9, (pick r.a 3 : Nat), 0, 0, noS, noS⟩
  else if pick r.op 30 < 29 then ⟨10, (pick r.a 3 : Nat), 0, 0, noS, noS⟩
  else ⟨11, (1 + pick r.a 3 : Nat), 0, 0, noS, noS⟩
def actsL (l : List Ins) (most : Nat) : List Akt := (l.take most).map actI
theorem actsL_length (l : List Ins) (most : Nat) : (actsL l most).length ≤ most := by simp [actsL]; omega
structure ActOk (a : Akt) : Prop where
  k2 : 2 ≤ a.kind
  k11 : a.kind ≤ 11
  name : a.name = noS ∨ a.name ∈ [fS, gS, devS]
  exit : a.kind = 11 → a.p ≠ 0
  data : a.data.size ≤ 30
theorem actI_ok (r : Ins) : ActOk (actI r) := by
  have hn := nameA_mem r.c
  have hd := (dataS_le r.c r.b).2
  have n0 : noS.size ≤ 30 := by decide
  unfold actI
  repeat' split
  all_goals refine ⟨by simp, by simp, ?_, ?_, ?_⟩
  all_goals first
    | exact .inr hn
    | exact .inl rfl
    | exact n0
    | exact hd
    | (intro h; simp at h; done)
    | (intro _; show ((1 + pick r.a 3 : Nat) : Int) ≠ 0; omega)
theorem actsL_ok (l : List Ins) (most : Nat) : ∀ a ∈ actsL l most, ActOk a := fun a ha => by
  obtain ⟨r, _, rfl⟩ := List.mem_map.1 ha
  exact actI_ok r
def keepB (a : Akt) : Bool := (a.p == 0) && (a.n == 0) && decide (6 ≤ a.kind) && decide (a.kind ≤ 8)
theorem leaves_of {a : Akt} (h : ActOk a) (hk : keepB a = false) : Leaves a := by
  refine ⟨h.k2, h.k11, fun e => ?_, h.exit, fun ⟨h1, h2, h3, h4⟩ => ?_⟩
  · rcases h.name with hn | hn
    · rw [e] at hn; exact absurd hn (by decide)
    · rw [e] at hn
      simp only [List.mem_cons, List.not_mem_nil, or_false] at hn
      rcases hn with hn | hn | hn <;> exact absurd hn (by decide)
  · simp [keepB, h1, h2, h3, h4] at hk
/-- What TopQuiet puts in behind an act. -/
def putIn (l : List Ins) (i : Nat) : List Akt :=
  if i % 4 = 1 then [⟨8, 0, 0, 0, noS, dataS (l.getD i default).a (l.getD i default).b⟩] else if i % 4 = 3 then [⟨7, 0, 0, (1 : Nat), noS, noS⟩] else []
def withL (l : List Ins) : List Akt → Nat → List Akt
  | [], _ => []
  | a :: r, i => a :: (putIn l i ++ withL l r (i + 1))
theorem putIn_asks (l : List Ins) (i : Nat) : ∀ a ∈ putIn l i, Asks a := fun a ha => by
  unfold putIn at ha
  split at ha
  · obtain rfl := List.mem_singleton.1 ha
    have := dataS_le (l.getD i default).a (l.getD i default).b
    exact .inl ⟨_, rfl, this.1, by omega⟩
  split at ha
  · obtain rfl := List.mem_singleton.1 ha
    exact .inr ⟨1, rfl, by omega, by omega⟩
  · cases ha
theorem putIn_length (l : List Ins) (i : Nat) : (putIn l i).length = if i % 2 = 1 then 1 else 0 := by
  unfold putIn
  by_cases h1 : i % 4 = 1
  · rw [if_pos h1, if_pos (by omega)]; rfl
  by_cases h3 : i % 4 = 3
  · rw [if_neg h1, if_pos h3, if_pos (by omega)]; rfl
  · rw [if_neg h1, if_neg h3, if_neg (by omega)]; rfl
theorem withL_length (l : List Ins) : ∀ (zs : List Akt) (i : Nat), (withL l zs i).length = zs.length + ((i + zs.length) / 2 - i / 2)
  | [], i => by simp [withL]
  | a :: r, i => by
    rw [withL, List.length_cons, List.length_append, withL_length l r, putIn_length, List.length_cons]
    split <;> omega
theorem woven_put (as0 : List Akt) : ∀ (ps : List Akt), (∀ a ∈ ps, Asks a) → ∀ {p q : List Akt}, Woven p q → Woven p (ps.filter (fun a => !(keepB a && decide (a ∈ as0))) ++ q)
  | [], _, _, _, h => h
  | b :: ps, hb, p, q, h => by
    rw [List.filter_cons]
    have ih := woven_put as0 ps (fun a ha => hb a (by simp [ha])) h
    split
    · exact .inl ⟨hb b (by simp), ih⟩
    · exact ih
theorem woven_with (l : List Ins) (as0 : List Akt) : ∀ (zs : List Akt) (i : Nat), (∀ a ∈ zs, ActOk a ∧ a ∈ as0) → Woven (zs.filter (fun a => !keepB a)) ((withL l zs i).filter (fun a => !(keepB a && decide (a ∈ as0))))
  | [], _, _ => rfl
  | a :: r, i, h => by
    have ih := woven_with l as0 r (i + 1) (fun b hb => h b (by simp [hb]))
    obtain ⟨h1, h2⟩ := h a (by simp)
    rw [withL, List.filter_cons, List.filter_cons, List.filter_append]
    have ih' := woven_put as0 (putIn l i) (putIn_asks l i) ih
    cases hk : keepB a with
    | true =>
      simp only [Bool.not_true, Bool.true_and]
      rw [if_neg (by simp), if_neg (by simp [h2])]
      exact ih'
    | false =>
      simp only [Bool.not_false, Bool.false_and]
      rw [if_pos trivial, if_pos trivial]
      exact .inr ⟨a, _, rfl, rfl, leaves_of h1 hk, ih'⟩
end Go.Proofs.YtdjamdbamkhblacDoor
namespace Go.Proofs.YtdjamdbamkhblacDoor
open Go.RowKit

def touchMc (s : Mc) (i : Ins) : Mc :=
  if rg s i.b < s.mem.length then (if i.op = 8 then { s with regs := s.regs.set i.a.toNat (s.mem.getD (rg s i.b) 0) } else { s with mem := s.mem.set (rg s i.b) (rg s i.a) }) else s
def TouchPost (w0 : World) (g : Nat) (C : Value) (s : Mc) (i : Ins) (en : Nat) (B T M : Value) (e : Ending) (w' : World) : Prop :=
  ∃ z : Int, Hid (z = if rg s i.b < s.mem.length then 0 else 3) ∧ e = .returned (.int .i64 z) ∧ Mach w0 w' g C (touchMc s i) en B T M
set_option maxHeartbeats 4000000 in
theorem touch_any (w0 : World) (g en : Nat) (C B T M : Value) (s : Mc) (i : Ins) (w : World) (h : Mach w0 w g C s en B T M) (hs : McOk s) (hi : InsOk i) (ho : i.op = 8 ∨ i.op = 9) (hml : s.mem.length ≤ 1024) :
    Calls Tryd.prog 181 #[.pointer (some ⟨g, 0, none⟩), i.val] w (TouchPost w0 g C s i en B T M) := by
  obtain ⟨o1, o2, a0, a7, b0, b7, c0, cw, c7⟩ := hi
  obtain ⟨o, a, b, c⟩ := i
  simp only at o1 o2 a0 a7 b0 b7 c0 cw c7 ho ⊢
  unfold Ins.val
  simp only
  obtain ⟨bn, rfl⟩ : ∃ n : Nat, b = (n : Int) := ⟨b.toNat, by omega⟩
  obtain ⟨an, rfl⟩ : ∃ n : Nat, a = (n : Int) := ⟨a.toNat, by omega⟩
  have hr8 := hs.regs
  have hbn : (bn : Int) < 8 := by omega
  have han : (an : Int) < 8 := by omega
  have e1 := (h.blk.cell (4 + bn)).trans (mc_reg bn (by omega))
  have e2 := (h.blk.cell (4 + an)).trans (mc_reg an (by omega))
  have e3 := h.blk.cell 13
  have hg := h.blk.lt
  have hg1 : g < w.heap.size + 1 := by omega
  have fz := h.blk.frozen (4 + an)
  obtain ⟨A3, k3, hM⟩ := own_slice h.om
  have hX : Hid (rg s (bn : Int) = s.regs.getD bn 0) := rfl
  have hY : Hid (rg s (an : Int) = s.regs.getD an 0) := rfl
  subst hM
  simp [mcCells] at e3
  unfold natV at e1 e2
  obtain ⟨x, hx⟩ : ∃ x, s.regs.getD bn 0 = x := ⟨_, rfl⟩
  obtain ⟨y, hy⟩ : ∃ y, s.regs.getD an 0 = y := ⟨_, rfl⟩
  rw [hx] at e1
  rw [hy] at e2
  have HX := Lib.hid hx
  have HY := Lib.hid hy
  clear hx hy
  have H := Lib.hid h
  clear h
  have hwg : w.heap.size ≠ g := by omega
  have hwg' : g ≠ w.heap.size := by omega
  by_cases hlt : x < s.mem.length
  · obtain ⟨q, cap, hv, hq, hql⟩ := H.out.om.form (by omega)
    injection hv with hv1 hv2 hv3
    subst hv1 hv3
    clear hv2
    have e4 := H.out.om.cells (g := q) rfl x _ (natsV_at hlt)
    rw [add_plain, Nat.zero_add] at e4
    unfold natV at e4
    have hgq : g ≠ q := fun e => own_blk_ne H.out.om H.out.blk (by decide) (by rw [e]; rfl)
    have hqg : q ≠ g := Ne.symm hgq
    have hq1 : q < w.heap.size + 1 := by omega
    have hwq : w.heap.size ≠ q := by omega
    have hwq' : q ≠ w.heap.size := by omega
    obtain ⟨v, hvv⟩ : ∃ v, s.mem.getD x 0 = v := ⟨_, rfl⟩
    rw [hvv] at e4
    have HV := Lib.hid hvv
    clear hvv
    have HE : Hid ((if rg s (bn : Int) < s.mem.length then (0 : Int) else 3) = 0) := if_pos (by rw [hX.out, HX.out]; exact hlt)
    have fq : w.frozen? ⟨q, x, none⟩ = false := by
      rcases H.out.om.2 with ⟨h0, _⟩ | ⟨g', cap', cur, hv, _, hh, _⟩
      · cases h0
      · injection hv with e1
        injection e1 with e1
        injection e1 with e1
        subst e1
        exact Blk.frozen (t := 3) (cs := cur) hh x
    rcases ho with rfl | rfl
    · have HT : Hid (touchMc s ⟨8, (an : Int), (bn : Int), c⟩ = { s with regs := s.regs.set an v }) := by
        show _ = _
        unfold touchMc
        simp only
        rw [hX.out, HX.out, if_pos hlt, HV.out]
        rfl
      go_enter Tryd.func181, Tryd.ntmps181
      go_wp2
      go_quiet (fail)
      go_wp2
      go_region_law (first | fail)
      all_goals
        go_wp2
        go_ret
        exact ⟨_, HE.out.symm, rfl, by rw [HT.out]; exact (H.out.later (Below.drewN' ((Below.refl w.heap.size w).alloc (Nat.le_refl _) _) _)).setreg hr8 an (by omega) _⟩
    · have HT : Hid (touchMc s ⟨9, (an : Int), (bn : Int), c⟩ = { s with mem := s.mem.set x y }) := by
        show _ = _
        unfold touchMc
        simp only
        rw [hX.out, HX.out, if_pos hlt, hY.out, HY.out]
        rfl
      go_enter Tryd.func181, Tryd.ntmps181
      go_wp2
      go_quiet (fail)
      go_wp2
      go_region_law (first | fail)
      all_goals
        go_wp2
        go_ret
        exact ⟨_, HE.out.symm, rfl, by rw [HT.out]; exact (H.out.later (Below.drewN' ((Below.refl w.heap.size w).alloc (Nat.le_refl _) _) _)).setmem rfl x y⟩
  · have hge : s.mem.length ≤ x := by omega
    have HE : Hid ((if rg s (bn : Int) < s.mem.length then (0 : Int) else 3) = 3) := if_neg (by rw [hX.out, HX.out]; exact hlt)
    have HT : Hid (touchMc s ⟨o, (an : Int), (bn : Int), c⟩ = s) := by
      show _ = _
      unfold touchMc
      simp only
      rw [hX.out, HX.out, if_neg hlt]
    clear hlt
    go_enter Tryd.func181, Tryd.ntmps181
    go_wp2
    go_quiet (fail)
    go_wp2
    go_ret
    exact ⟨_, HE.out.symm, rfl, by rw [HT.out]; exact H.out.later (Below.drewN' ((Below.refl w.heap.size w).alloc (Nat.le_refl _) _) _)⟩
end Go.Proofs.YtdjamdbamkhblacDoor
