/- Acts laid in a block read as a list; answers read off a script's row. No condition. Two kernels that differ in the first region's words at most remain so, whatever is done to both: plain mathematics. -/
import Derived.Test.YtdjamdbamkhblacDoorKRun
import Derived.Test.YtdjamdbamkhblacDoorG27
namespace Go.Proofs.YtdjamdbamkhblacDoor
open Go.RowKit
set_option linter.unusedVariables false
set_option linter.unusedSimpArgs false
def aktCells (l : List Akt) : List Value := l.flatMap fun x => [.int .i64 x.kind, .int .i64 x.p, .int .i64 x.n, .int .i64 x.m, .string x.name, .string x.data]
theorem aktCells_len (l : List Akt) : (aktCells l).length = l.length * 6 := flat_len _ 6 (fun _ => rfl) l
theorem aktCells_app (l r : List Akt) : aktCells (l ++ r) = aktCells l ++ aktCells r := by simp [aktCells]
theorem akt_one (l : List Akt) : ∀ u ∈ aktCells l, u.oneCell' = true := by
  intro u hu
  simp only [aktCells, List.mem_flatMap] at hu
  obtain ⟨i, _, hu⟩ := hu
  simp at hu
  rcases hu with h | h | h | h | h | h <;> subst h <;> rfl
theorem RdA.of {w : World} {B : Nat} {A : Option Addr} {l : List Akt} (h : Rd w B 6 A l.length (aktCells l)) : RdA w B A l := fun hl => by
  obtain ⟨b, o, e, hb, hc⟩ := h.2 hl
  refine ⟨b, o, e, hb, fun k hk => ?_⟩
  have f := fun j hj => flat_at (fun x : Akt => [Value.int .i64 x.kind, .int .i64 x.p, .int .i64 x.n, .int .i64 x.m, .string x.name, .string x.data]) 6 (fun _ => rfl) l k hk j hj
  exact ⟨hc _ _ (f 0 (by omega)), hc _ _ (f 1 (by omega)), hc _ _ (f 2 (by omega)), hc _ _ (f 3 (by omega)), hc _ _ (f 4 (by omega)), hc _ _ (f 5 (by omega))⟩
theorem RdA.blk {w : World} {g : Nat} {l : List Akt} {cs : Array Value} (h : Blk w g 26 cs) (hc : cs = (aktCells l).toArray) : RdA w w.heap.size (some ⟨g, 0, none⟩) l := by
  have hs : cs.size = l.length * 6 := by rw [hc]; simp [aktCells_len]
  have := h.rd l.length 6 (by omega)
  rw [hc] at this
  simp only at this
  rw [List.take_of_length_le (by rw [aktCells_len]; omega)] at this
  exact RdA.of this
/-- An answer, in memory. -/
theorem RunKPost.at_ {w w' : World} {A : Option Addr} {c : Nat} {l : List Ans} (h : w'.ownsRow w.heap.size 41 3 (.slice A l.length c) l.length (ansCells l)) (hn : 0 < l.length) :
    ∃ b, A = some ⟨b, 0, none⟩ ∧ b < w'.heap.size ∧ ∀ k (hk : k < l.length), w'.cell? ⟨b, k * 3, none⟩ = some (.int .i64 l[k].code) ∧ w'.cell? ⟨b, k * 3 + 1, none⟩ = some (.int .i64 l[k].n) ∧ w'.cell? ⟨b, k * 3 + 2, none⟩ = some (.string l[k].data) := by
  have hr := Rd.of_own h
  obtain ⟨b, rfl, _, hlt⟩ := own_addr h hn
  obtain ⟨b', o, e, _, hc⟩ := hr.2 hn
  cases e
  refine ⟨b, rfl, hlt, fun k hk => ?_⟩
  obtain ⟨x0, x1, x2⟩ := ansCells_at l k hk
  have y0 := hc _ _ x0
  have y1 := hc _ _ x1
  have y2 := hc _ _ x2
  rw [Nat.zero_add] at y0 y1 y2
  exact ⟨y0, y1, y2⟩
theorem str_app_size (a b : ByteArray) : (a ++ b).size = a.size + b.size := ByteArray.size_append
end Go.Proofs.YtdjamdbamkhblacDoor
namespace Go.Proofs.YtdjamdbamkhblacDoor
open Go.RowKit
/-- Two kernels that differ in the first region's words at most. -/
structure Like (k h : Krn) : Prop where
  mods : h.mods = k.mods
  nodes : h.nodes = k.nodes
  pipes : h.pipes = k.pipes
  procs : h.procs = k.procs
  len : h.mem.length = k.mem.length
  mem : ∀ j, 64 ≤ j → h.mem.getD j 0 = k.mem.getD j 0
theorem Like.refl (k : Krn) : Like k k := ⟨rfl, rfl, rfl, rfl, rfl, fun _ _ => rfl⟩
theorem Like.withMem {k h : Krn} (hk : Like k h) {m m' : List Int} (hl : m'.length = m.length) (hm : ∀ j, 64 ≤ j → m'.getD j 0 = m.getD j 0) : Like { k with mem := m } { h with mem := m' } :=
  ⟨hk.mods, hk.nodes, hk.pipes, hk.procs, hl, hm⟩
/-- What asking a module changes. -/
theorem ask_like {k h : Krn} (ok : KOk k) (oh : KOk h) (hl : Like k h) {u n : Nat} (hu : u < k.mods.length) (hn : n ≤ 65535) :
    (u ≠ 0 → (askK k u n).isSome = (askK h u n).isSome ∧ ((askK k u n).map (·.1) = (askK h u n).map (·.1))) ∧
    Like (((askK k u n).map (·.2)).getD k) (((askK h u n).map (·.2)).getD h) := by
  have hu8 : u < 8 := by have := ok.l0; omega
  have hm := ok.mods _ (List.getElem_mem hu)
  have hv := mod_code hm
  obtain ⟨ht, h0, _⟩ := trusted_of_verify hv
  have hc : k.mods.getD u default = k.mods[u] := getD_eq hu
  have hc' : h.mods.getD u default = k.mods[u] := by rw [hl.mods]; exact hc
  have start : ∀ {q : Krn}, KOk q → Keeps u k.mods[u].code ⟨0, [], [n, 0, 0, 0, 64 * u, 64 * u, 63, 0], [], q.mem.map Int.toNat⟩ := fun {q} oq =>
    ⟨ask_mc oq u n hn hu8, h0, by simp, rfl, rfl, .inl ⟨Nat.le_refl _, by show 64 * u ≤ 64 * u + 63; omega⟩, by simp [oq.l1]⟩
  have self : ∀ s : Mc, Agree u s s := fun s => ⟨rfl, rfl, rfl, rfl, rfl, fun _ _ _ => rfl⟩
  have far : ∀ {q : Krn}, KOk q → ∀ j, j < 64 * u ∨ 64 * u + 64 ≤ j → (runs k.mods[u].code 2000 ⟨0, [], [n, 0, 0, 0, 64 * u, 64 * u, 63, 0], [], q.mem.map Int.toNat⟩).1.mem.getD j 0 = (q.mem.map Int.toNat).getD j 0 := fun {q} oq j hj =>
    (runs_trust (by omega) ht 2000 _ _ (start oq) (self _)).2.2.2.2 j hj
  have nat_ : ∀ {q : Krn}, KOk q → ∀ j, (((q.mem.map Int.toNat).getD j 0 : Nat) : Int) = q.mem.getD j 0 := fun {q} oq j => by
    simp only [List.getD_eq_getElem?_getD, List.getElem?_map]
    cases hj : q.mem[j]? with
    | none => rfl
    | some z =>
      have := List.any_eq_false.1 oq.mem z (List.mem_of_getElem? hj)
      simp [oddW] at this
      simp; omega
  have len_ : ∀ {q : Krn}, KOk q → (runs k.mods[u].code 2000 ⟨0, [], [n, 0, 0, 0, 64 * u, 64 * u, 63, 0], [], q.mem.map Int.toNat⟩).1.mem.length = 1024 := fun {q} oq => by
    rw [runs_mem]; simp [oq.l1]
  have cast_ : ∀ (l : List Nat) (j : Nat), (l.map fun (x : Nat) => (x : Int)).getD j 0 = ((l.getD j 0 : Nat) : Int) := fun l j => by
    simp only [List.getD_eq_getElem?_getD, List.getElem?_map]
    cases l[j]? <;> rfl
  unfold askK
  rw [hc, hc']
  have fk := far ok
  have fh := far oh
  have lk := len_ ok
  have lh := len_ oh
  by_cases hu0 : u = 0
  · refine ⟨fun h => absurd hu0 h, ?_⟩
    revert fk fh lk lh
    generalize runs k.mods[u].code 2000 ⟨0, [], [n, 0, 0, 0, 64 * u, 64 * u, 63, 0], [], k.mem.map Int.toNat⟩ = a
    generalize runs k.mods[u].code 2000 ⟨0, [], [n, 0, 0, 0, 64 * u, 64 * u, 63, 0], [], h.mem.map Int.toNat⟩ = b
    obtain ⟨s, en⟩ := a
    obtain ⟨t, em⟩ := b
    intro fk fh lk lh
    simp only at fk fh lk lh ⊢
    have ks : ∀ j, 64 ≤ j → (s.mem.map fun (x : Nat) => (x : Int)).getD j 0 = k.mem.getD j 0 := fun j hj => by
      rw [cast_, fk j (.inr (by omega)), nat_ ok]
    have ht : ∀ j, 64 ≤ j → (t.mem.map fun (x : Nat) => (x : Int)).getD j 0 = h.mem.getD j 0 := fun j hj => by
      rw [cast_, fh j (.inr (by omega)), nat_ oh]
    have kl := ok.l1
    have hll := oh.l1
    by_cases e1 : en = 1 <;> by_cases e2 : em = 1 <;> simp only [e1, e2, if_true, if_false, Option.map_some, Option.map_none, Option.getD_some, Option.getD_none]
    · exact hl.withMem (by simp [lk, lh]) fun j hj => by rw [ks j hj, ht j hj, hl.mem j hj]
    · exact hl.withMem (m' := h.mem) (by simp [lk, hll]) fun j hj => by rw [ks j hj, hl.mem j hj]
    · exact hl.withMem (m := k.mem) (by simp [lh, kl]) fun j hj => by rw [ht j hj, hl.mem j hj]
    · exact hl
  · have ag : Agree u (⟨0, [], [n, 0, 0, 0, 64 * u, 64 * u, 63, 0], [], k.mem.map Int.toNat⟩ : Mc) ⟨0, [], [n, 0, 0, 0, 64 * u, 64 * u, 63, 0], [], h.mem.map Int.toNat⟩ :=
      ⟨rfl, rfl, rfl, rfl, by simp [ok.l1, oh.l1], fun j h1 h2 => by
        have e1 := nat_ ok j
        have e2 := nat_ oh j
        have e3 := hl.mem j (by omega)
        show (k.mem.map Int.toNat).getD j 0 = (h.mem.map Int.toNat).getD j 0
        omega⟩
    obtain ⟨_, _, r3, r4, _⟩ := runs_trust (by omega) ht 2000 _ _ (start ok) ag
    revert fk fh lk lh r3 r4
    generalize runs k.mods[u].code 2000 ⟨0, [], [n, 0, 0, 0, 64 * u, 64 * u, 63, 0], [], k.mem.map Int.toNat⟩ = a
    generalize runs k.mods[u].code 2000 ⟨0, [], [n, 0, 0, 0, 64 * u, 64 * u, 63, 0], [], h.mem.map Int.toNat⟩ = b
    obtain ⟨s, en⟩ := a
    obtain ⟨t, em⟩ := b
    intro fk fh lk lh r3 r4
    simp only at fk fh lk lh r3 r4 ⊢
    subst r3
    by_cases e1 : en = 1
    · simp only [e1, if_true, Option.map_some, Option.getD_some, Option.isSome_some]
      refine ⟨fun _ => ⟨trivial, by rw [r4.regs]⟩, hl.withMem (by simp [lk, lh]) fun j hj => ?_⟩
      rw [cast_, cast_]
      by_cases hj2 : 64 * u ≤ j ∧ j ≤ 64 * u + 63
      · rw [r4.mem j hj2.1 hj2.2]
      · rw [fk j (by omega), fh j (by omega), nat_ ok, nat_ oh]
        exact hl.mem j hj
    · simp only [e1, if_false, Option.map_none, Option.getD_none, Option.isSome_none]
      exact ⟨fun _ => ⟨trivial, trivial⟩, hl⟩
/-- The kernel behind an answer. -/
def afterK (k : Krn) (u n : Nat) : Krn := ((askK k u n).map (·.2)).getD k
theorem after_ok {k : Krn} (h : KOk k) {u n : Nat} (hn : n ≤ 65535) (hu : u < k.mods.length) : KOk (afterK k u n) ∧ (afterK k u n).mods = k.mods := by
  unfold afterK
  cases ha : askK k u n with
  | none => exact ⟨h, rfl⟩
  | some x =>
    obtain ⟨v, k'⟩ := x
    obtain ⟨h1, h2, _⟩ := ask_ok h hn hu ha
    exact ⟨h1, h2⟩
/-- One that asks alone, with the first module: the other stays. -/
theorem ask_quiet {k h : Krn} (oh : KOk h) (hl : Like k h) {n : Nat} (hu : 0 < h.mods.length) (hn : n ≤ 65535) : Like k (afterK h 0 n) := by
  have hc : h.mods.getD 0 default = h.mods[0] := getD_eq hu
  have hv := mod_code (oh.mods _ (List.getElem_mem hu))
  obtain ⟨ht, h0, _⟩ := trusted_of_verify hv
  unfold afterK
  cases ha : askK h 0 n with
  | none => exact hl
  | some x =>
    obtain ⟨v, k'⟩ := x
    have hk : Keeps 0 h.mods[0].code ⟨0, [], [n, 0, 0, 0, 64 * 0, 64 * 0, 63, 0], [], h.mem.map Int.toNat⟩ :=
      ⟨ask_mc oh 0 n hn (by omega), h0, by simp, rfl, rfl, .inl ⟨Nat.le_refl _, by show 0 ≤ 63; omega⟩, by simp [oh.l1]⟩
    have fh := (runs_trust (by omega) ht 2000 _ _ hk ⟨rfl, rfl, rfl, rfl, rfl, fun _ _ _ => rfl⟩).2.2.2.2
    have lh := runs_mem (l := h.mods[0].code) 2000 ⟨0, [], [n, 0, 0, 0, 64 * 0, 64 * 0, 63, 0], [], h.mem.map Int.toNat⟩
    unfold askK at ha
    rw [hc] at ha
    revert ha fh lh
    generalize runs h.mods[0].code 2000 ⟨0, [], [n, 0, 0, 0, 64 * 0, 64 * 0, 63, 0], [], h.mem.map Int.toNat⟩ = b
    obtain ⟨t, em⟩ := b
    intro ha fh lh
    simp only at ha fh lh
    split at ha
    · cases ha
      refine hl.withMem (m := k.mem) (by simpa [hl.len] using lh) fun j hj => ?_
      have e1 : (t.mem.map fun (x : Nat) => (x : Int)).getD j 0 = ((t.mem.getD j 0 : Nat) : Int) := by
        simp only [List.getD_eq_getElem?_getD, List.getElem?_map]
        cases t.mem[j]? <;> rfl
      rw [e1, fh j (.inr (by omega)), ← hl.mem j hj]
      simp only [List.getD_eq_getElem?_getD, List.getElem?_map]
      cases hj : h.mem[j]? with
      | none => rfl
      | some z =>
        have := List.any_eq_false.1 oh.mem z (List.mem_of_getElem? hj)
        simp [oddW] at this
        simp; omega
    · cases ha
theorem askAll_quiet : ∀ (l : List UInt8) {k h : Krn}, KOk h → Like k h → 0 < h.mods.length → Like k (askAll h 0 l).2
  | [], _, _, _, hl, _ => hl
  | c :: r, k, h, oh, hl, hu => by
    have h8 : c.toNat < 256 := UInt8.toNat_lt c
    have hq := ask_quiet (n := c.toNat) oh hl hu (by omega)
    obtain ⟨o1, o2⟩ := after_ok (n := c.toNat) oh (by omega) hu
    unfold afterK at hq o1 o2
    unfold askAll
    cases ha : askK h 0 c.toNat with
    | none => exact hl
    | some x =>
      obtain ⟨v, k'⟩ := x
      rw [ha] at hq o1 o2
      exact askAll_quiet r o1 hq (by have : k'.mods = h.mods := o2; rw [this]; exact hu)
theorem askAll_like : ∀ (l : List UInt8) {k h : Krn}, KOk k → KOk h → Like k h → ∀ {u : Nat}, u < k.mods.length → u ≠ 0 → (askAll k u l).1 = (askAll h u l).1 ∧ Like (askAll k u l).2 (askAll h u l).2
  | [], _, _, _, _, hl, _, _, _ => ⟨rfl, hl⟩
  | c :: r, k, h, ok, oh, hl, u, hu, hu0 => by
    have h8 : c.toNat < 256 := UInt8.toNat_lt c
    obtain ⟨a1, a2⟩ := ask_like (n := c.toNat) ok oh hl hu (by omega)
    have a1 := (a1 hu0).1
    have k1 := after_ok (n := c.toNat) ok (by omega) hu
    have k2 := after_ok (n := c.toNat) oh (by omega) (by rw [hl.mods]; exact hu)
    unfold afterK at k1 k2
    unfold askAll
    cases ha : askK k u c.toNat with
    | none =>
      cases hb : askK h u c.toNat with
      | none => exact ⟨rfl, hl⟩
      | some y => rw [ha, hb] at a1; cases a1
    | some x =>
      cases hb : askK h u c.toNat with
      | none => rw [ha, hb] at a1; cases a1
      | some y =>
        obtain ⟨v, k'⟩ := x
        obtain ⟨v', h'⟩ := y
        rw [ha] at a2 k1
        rw [hb] at a2 k2
        obtain ⟨b1, b2⟩ := askAll_like r k1.1 k2.1 a2 (u := u) (by rw [k1.2]; exact hu) hu0
        exact ⟨congrArg (· + 1) b1, b2⟩
theorem Like.symm {k h : Krn} (hl : Like k h) : Like h k := ⟨hl.mods.symm, hl.nodes.symm, hl.pipes.symm, hl.procs.symm, hl.len.symm, fun j hj => (hl.mem j hj).symm⟩
theorem Like.trans {a b c : Krn} (h : Like a b) (h' : Like b c) : Like a c := ⟨h'.mods.trans h.mods, h'.nodes.trans h.nodes, h'.pipes.trans h.pipes, h'.procs.trans h.procs, h'.len.trans h.len, fun j hj => (h'.mem j hj).trans (h.mem j hj)⟩
/-- The same act on both. -/
theorem do_like {k h : Krn} (ok : KOk k) (oh : KOk h) (hl : Like k h) (a : Akt) (ha : a.kind ≠ 1) (hak : 1 ≤ a.kind ∧ a.kind ≤ 11) : Like (doK k a).1 (doK h a).1 := by
  obtain ⟨hm, hn, hp, hq, hlen, hmem⟩ := hl
  have hl : Like k h := ⟨hm, hn, hp, hq, hlen, hmem⟩
  obtain ⟨km, kmem, kn, kp, kq⟩ := k
  obtain ⟨im, imem, in_, ip, iq⟩ := h
  simp only at hm hn hp hq hlen hmem
  subst hm; subst hn; subst hp; subst hq
  have both : ∀ (km' : List Mod) (kn' : List Nod) (kp' : List ByteArray) (kq' : List Prc), Like ⟨km', kmem, kn', kp', kq'⟩ ⟨km', imem, kn', kp', kq'⟩ := fun _ _ _ _ => ⟨rfl, rfl, rfl, rfl, hlen, hmem⟩
  have mk : ∀ x : Nod, Like (makeK ⟨im, kmem, in_, ip, iq⟩ a.name x).1 (makeK ⟨im, imem, in_, ip, iq⟩ a.name x).1 := fun x => by
    unfold makeK findK freeN
    simp only
    split
    case isFalse => exact hl
    split
    case isTrue => exact hl
    split
    case isTrue => exact hl
    split
    case isTrue => exact hl
    exact both _ _ _ _
  unfold doK
  rw [if_neg ha, if_neg ha]
  by_cases h2 : a.kind = 2
  · rw [if_pos h2, if_pos h2]; exact mk _
  rw [if_neg h2, if_neg h2]
  by_cases h3 : a.kind = 3
  · rw [if_pos h3, if_pos h3]; exact mk _
  rw [if_neg h3, if_neg h3]
  by_cases h4 : a.kind = 4
  · rw [if_pos h4, if_pos h4]
    unfold unlinkK findK
    simp only
    split
    · exact hl
    · exact both _ _ _ _
  rw [if_neg h4, if_neg h4]
  simp only
  split
  case isFalse => exact hl
  rename_i hc
  have hp4 : a.p.toNat < 4 := by omega
  unfold byK
  simp only
  by_cases h5 : a.kind = 5
  · rw [if_pos h5, if_pos h5]
    unfold openK findK
    simp only
    split
    case isFalse => exact hl
    split
    case isTrue => exact hl
    split
    case isTrue => exact hl
    exact both _ _ _ _
  rw [if_neg h5, if_neg h5]
  by_cases h9 : a.kind = 9
  · rw [if_pos h9, if_pos h9]
    unfold pipeK freePipe
    simp only
    split
    · exact hl
    · unfold setEnd
      simp only
      split
      · exact hl
      · exact both _ _ _ _
  rw [if_neg h9, if_neg h9]
  by_cases h10 : a.kind = 10
  · rw [if_pos h10, if_pos h10]
    unfold forkK freeP
    simp only
    split
    · exact hl
    · exact both _ _ _ _
  rw [if_neg h10, if_neg h10]
  by_cases h11 : a.kind = 11
  · rw [if_pos h11, if_pos h11]
    exact both _ _ _ _
  rw [if_neg h11, if_neg h11]
  split
  · exact hl
  rename_i hn0
  by_cases h6 : a.kind = 6
  · rw [if_pos h6, if_pos h6]
    exact both _ _ _ _
  rw [if_neg h6, if_neg h6]
  split
  · exact hl
  rename_i hrw
  have hx := ends_ok ok (i := a.n.toNat) hp4
  have unit_ : ∀ d : Nod, nodOk im.length d = true → d.kind = 2 → d.unit.toNat < im.length := fun d hd h2 => by
    obtain ⟨u1, u2, _⟩ := dev_unit hd h2
    omega
  by_cases h7 : a.kind = 7
  · rw [if_pos h7, if_pos h7]
    unfold readK
    simp only
    split
    · exact hl
    split
    · split
      · exact hl
      · exact both _ _ _ _
    rename_i hk2
    split
    · rename_i hd
      obtain ⟨_, q2, q3, _⟩ := node_lt hx (by show ((iq.getD a.p.toNat default).ends.getD a.n.toNat default).kind ≠ 0; omega) (by show ((iq.getD a.p.toNat default).ends.getD a.n.toNat default).kind ≠ 2; omega) (by show ((iq.getD a.p.toNat default).ends.getD a.n.toNat default).kind ≠ 3; omega)
      have hno := nod_ok ok (i := ((iq.getD a.p.toNat default).ends.getD a.n.toNat default).node.toNat) (by simp only at q2 q3; omega)
      have h8 := (ask_like (n := 256) ok oh hl (unit_ _ hno hd) (by omega)).2
      revert h8
      simp only
      generalize in_.getD ((iq.getD a.p.toNat default).ends.getD a.n.toNat default).node.toNat default = d
      cases askK ⟨im, kmem, in_, ip, iq⟩ d.unit.toNat 256 with
      | none =>
        cases askK ⟨im, imem, in_, ip, iq⟩ d.unit.toNat 256 with
        | none => exact id
        | some y => exact id
      | some x =>
        cases askK ⟨im, imem, in_, ip, iq⟩ d.unit.toNat 256 with
        | none => exact id
        | some y => exact id
    split
    · exact hl
    · exact both _ _ _ _
  rw [if_neg h7, if_neg h7]
  unfold writeK
  simp only
  split
  · exact hl
  split
  · split
    · exact hl
    split
    · exact hl
    · exact both _ _ _ _
  rename_i hk3
  split
  · rename_i hd
    obtain ⟨_, q2, q3, _⟩ := node_lt hx (by show ((iq.getD a.p.toNat default).ends.getD a.n.toNat default).kind ≠ 0; omega) (by show ((iq.getD a.p.toNat default).ends.getD a.n.toNat default).kind ≠ 2; omega) (by show ((iq.getD a.p.toNat default).ends.getD a.n.toNat default).kind ≠ 3; omega)
    have hno := nod_ok ok (i := ((iq.getD a.p.toNat default).ends.getD a.n.toNat default).node.toNat) (by simp only at q2 q3; omega)
    have hu := unit_ _ hno hd
    simp only at hu
    have h8 : Like (askAll ⟨im, kmem, in_, ip, iq⟩ (in_.getD ((iq.getD a.p.toNat default).ends.getD a.n.toNat default).node.toNat default).unit.toNat a.data.data.toList).2 (askAll ⟨im, imem, in_, ip, iq⟩ (in_.getD ((iq.getD a.p.toNat default).ends.getD a.n.toNat default).node.toNat default).unit.toNat a.data.data.toList).2 := by
      by_cases h0 : (in_.getD ((iq.getD a.p.toNat default).ends.getD a.n.toNat default).node.toNat default).unit.toNat = 0
      · rw [h0] at hu ⊢
        exact (askAll_quiet a.data.data.toList ok (Like.refl _) hu).symm.trans (askAll_quiet a.data.data.toList oh hl hu)
      · exact (askAll_like a.data.data.toList ok oh hl hu h0).2
    split
    · split
      · exact h8
      · exact h8
    · split
      · exact h8
      · exact h8
  split
  · exact hl
  · exact both _ _ _ _
end Go.Proofs.YtdjamdbamkhblacDoor
