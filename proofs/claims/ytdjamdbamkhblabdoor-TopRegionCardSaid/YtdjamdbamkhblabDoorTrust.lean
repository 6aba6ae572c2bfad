/- Trusted code keeps to its region, and what it does hangs on its region alone: plain mathematics. -/
import Derived.Test.YtdjamdbamkhblabDoorCpuPure
import Derived.Test.YtdjamdbamkhblabDoorSafe
namespace Go.Proofs.YtdjamdbamkhblabDoor
/-- Code that may be trusted. -/
structure Trusted (l : List Ins) : Prop where
  code : CodeOk l
  last : ∀ k (h : k < l.length), k + 1 = l.length → endB l[k] = true
  each : ∀ k (h : k < l.length), badB l.length l[k] (l.getD (k + 1) default) = false

theorem or_base (r y : Nat) (hy : y < 64) : y ||| 64 * r = 64 * r + y := by
  have h := Nat.shiftLeft_add_eq_or_of_lt (i := 6) (b := y) hy r
  rw [Nat.shiftLeft_eq, Nat.mul_comm] at h
  rw [Nat.or_comm]
  exact h.symm
theorem or_base' (r x : Nat) (h1 : 64 * r ≤ x) (h2 : x ≤ 64 * r + 63) : x ||| 64 * r = x := by
  have h := or_base r (x - 64 * r) (by omega)
  have e : x = 64 * r + (x - 64 * r) := by omega
  rw [Nat.or_comm] at h
  rw [e, ← h, Nat.or_comm, ← Nat.or_assoc, Nat.or_self]

/-- What holds of a machine that runs trusted code in region r. -/
structure Keeps (r : Nat) (l : List Ins) (s : Mc) : Prop where
  ok : McOk s
  pos : s.pos < l.length
  back : ∀ p ∈ s.back, p < l.length
  r5 : s.regs.getD 5 0 = 64 * r
  r6 : s.regs.getD 6 0 = 63
  r4 : (64 * r ≤ s.regs.getD 4 0 ∧ s.regs.getD 4 0 ≤ 64 * r + 63) ∨ (s.regs.getD 4 0 ≤ 63 ∧ sndB (l.getD s.pos default) = true)
  mem : s.mem.length = 1024

theorem getD_set (l : List Nat) (k j v : Nat) : (l.set k v).getD j 0 = if k = j ∧ j < l.length then v else l.getD j 0 := by
  simp only [List.getD_eq_getElem?_getD, List.getElem?_set]
  by_cases h : k = j
  · subst h
    by_cases h2 : k < l.length
    · simp [h2]
    · simp [h2]
  · simp [h]

theorem badB_false {n : Nat} {i j : Ins} (h : badB n i j = false) :
    (1 ≤ i.op → i.op ≤ 8 → i.a ≠ 5 ∧ i.a ≠ 6) ∧ (1 ≤ i.op → i.op ≤ 8 → i.a = 4 → ¬ (i.op = 5 ∧ i.a = 4 ∧ i.b = 4 ∧ i.c = 5) → (i.op = 4 ∧ i.a = 4 ∧ i.c = 6) ∧ (j.op = 5 ∧ j.a = 4 ∧ j.b = 4 ∧ j.c = 5)) ∧
    ((i.op = 8 ∨ i.op = 9) → i.b = 4) ∧ ((i.op = 10 ∨ i.op = 11 ∨ i.op = 12) → i.c < n) := by
  simp only [badB, wrB, fstB, sndB, jmpB, Bool.or_eq_false_iff, Bool.and_eq_false_iff, Bool.not_eq_false', decide_eq_false_iff_not, decide_eq_true_eq, beq_eq_false_iff_ne, ne_eq, Bool.and_eq_true, bne_eq_false_iff_eq] at h
  obtain ⟨⟨⟨b1, b2⟩, b3⟩, b4⟩ := h
  refine ⟨fun h1 h2 => ?_, fun h1 h2 h3 h5 => ?_, fun h1 => ?_, fun h1 => ?_⟩
  · rcases b1 with b1 | b1
    · exact absurd ⟨h1, h2⟩ b1
    · exact b1
  · rcases b2 with ((b2 | b2) | b2) | b2
    · exact absurd ⟨h1, h2⟩ b2
    · exact absurd h3 b2
    · exact absurd b2 h5
    · exact b2
  · rcases b3 with b3 | b3
    · omega
    · exact b3
  · rcases b4 with b4 | b4
    · exact absurd h1 b4
    · omega
set_option maxHeartbeats 1000000 in
theorem step_keeps {r : Nat} {l : List Ins} {s : Mc} (hr : r < 16) (ht : Trusted l) (h : Keeps r l s) :
    (step l s).2 ≠ 3 ∧ ((step l s).2 = 0 → Keeps r l (step l s).1) ∧ ∀ j, j < 64 * r ∨ 64 * r + 64 ≤ j → (step l s).1.mem.getD j 0 = s.mem.getD j 0 := by
  have hok := step_ok (s := s) ht.code h.ok
  have hml : (step l s).1.mem.length = 1024 := step_mem.trans h.mem
  have hpos := h.pos
  have hin : l[s.pos]? = some l[s.pos] := List.getElem?_eq_getElem hpos
  obtain ⟨f1, f2, f3, f4⟩ := badB_false (ht.each s.pos hpos)
  have hlast := ht.last s.pos hpos
  have hgd : l.getD s.pos default = l[s.pos] := by rw [List.getD_eq_getElem?_getD, hin]; rfl
  have h4 := h.r4
  rw [hgd] at h4
  have hI := ht.code _ (List.getElem_mem hpos)
  have hnext : ¬ (l[s.pos].op = 10 ∨ l[s.pos].op = 13 ∨ l[s.pos].op = 15) → s.pos + 1 < l.length := fun he => by
    rcases Nat.lt_or_ge (s.pos + 1) l.length with h1 | h1
    · exact h1
    · have := hlast (by omega)
      simp only [endB, decide_eq_true_eq] at this
      exact absurd this he
  have hlen8 := h.ok.regs
  have hm := h.mem
  clear hlast
  revert hok hml
  unfold step
  rw [hin]
  generalize hi : l[s.pos] = i at *
  generalize hj : l.getD (s.pos + 1) default = j at *
  intro hok hml
  simp only at hok hml ⊢
  have hsn : sndB i = true ↔ (i.op = 5 ∧ i.a = 4 ∧ i.b = 4 ∧ i.c = 5) := by simp [sndB]
  have hsj : sndB j = true ↔ (j.op = 5 ∧ j.a = 4 ∧ j.b = 4 ∧ j.c = 5) := by simp [sndB]
  rw [hsn] at h4
  have ha0 := hI.a0
  have hc := hI.c0
  have h45 : i.op ≠ 5 → (64 * r ≤ s.regs.getD 4 0 ∧ s.regs.getD 4 0 ≤ 64 * r + 63) := fun h5 => by
    rcases h4 with h4 | h4
    · exact h4
    · exact absurd h4.2.1 h5
  by_cases o8 : i.op = 8
  · have hb : i.b = 4 := f3 (.inl o8)
    have h4' := h45 (by omega)
    have n1 := hnext (by omega)
    have a56 := f1 (by omega) (by omega)
    have a4 : i.a ≠ 4 := fun e => by have := (f2 (by omega) (by omega) e (by omega)).1.1; omega
    clear f1 f2 f3 f4 h4 h45 hnext
    have hx : rg s i.b = s.regs.getD 4 0 := by unfold rg; rw [hb]; rfl
    have hlt : rg s i.b < s.mem.length := by rw [hx, hm]; omega
    rw [if_pos o8, if_pos hlt] at hok hml ⊢
    refine ⟨by simp, fun _ => ⟨hok, n1, h.back, ?_, ?_, ?_, hml⟩, fun _ _ => rfl⟩
    · show (s.regs.set _ _).getD 5 0 = _
      rw [getD_set, if_neg (by omega)]; exact h.r5
    · show (s.regs.set _ _).getD 6 0 = _
      rw [getD_set, if_neg (by omega)]; exact h.r6
    · left
      show _ ≤ (s.regs.set _ _).getD 4 0 ∧ (s.regs.set _ _).getD 4 0 ≤ _
      rw [getD_set, if_neg (by omega)]; exact h4'
  by_cases o9 : i.op = 9
  · have hb : i.b = 4 := f3 (.inr o9)
    have h4' := h45 (by omega)
    have n1 := hnext (by omega)
    clear f1 f2 f3 f4 h4 h45 hnext
    have hx : rg s i.b = s.regs.getD 4 0 := by unfold rg; rw [hb]; rfl
    have hlt : rg s i.b < s.mem.length := by rw [hx, hm]; omega
    rw [if_neg o8, if_pos o9, if_pos hlt] at hok hml ⊢
    refine ⟨by simp, fun _ => ⟨hok, n1, h.back, h.r5, h.r6, .inl h4', hml⟩, fun q hq => ?_⟩
    show (s.mem.set _ _).getD q 0 = _
    rw [getD_set, if_neg (by omega)]
  by_cases o10 : i.op = 10
  · have h4' := h45 (by omega)
    have hcl := f4 (.inl o10)
    clear f1 f2 f3 f4 h4 h45 hnext
    rw [if_neg o8, if_neg o9, if_pos o10] at hok hml ⊢
    exact ⟨by simp, fun _ => ⟨hok, by show i.c.toNat < _; omega, h.back, h.r5, h.r6, .inl h4', hml⟩, fun _ _ => rfl⟩
  by_cases o11 : i.op = 11
  · have h4' := h45 (by omega)
    have hcl := f4 (.inr (.inl o11))
    have hct : i.c.toNat < l.length := by omega
    have n1 := hnext (by omega)
    clear f1 f2 f3 f4 h4 h45 hnext
    rw [if_neg o8, if_neg o9, if_neg o10, if_pos o11] at hok hml ⊢
    exact ⟨by simp, fun _ => ⟨hok, by (show (if rg s i.a = 0 then i.c.toNat else s.pos + 1) < l.length); split; exact hct; exact n1, h.back, h.r5, h.r6, .inl h4', hml⟩, fun _ _ => rfl⟩
  by_cases o12 : i.op = 12
  · have h4' := h45 (by omega)
    have hcl := f4 (.inr (.inr o12))
    have n1 := hnext (by omega)
    clear f1 f2 f3 f4 h4 h45 hnext
    rw [if_neg o8, if_neg o9, if_neg o10, if_neg o11, if_pos o12] at hok hml ⊢
    by_cases hb : s.back.length = 16
    · rw [if_pos hb] at hok hml ⊢
      exact ⟨by simp, fun h0 => by simp at h0, fun _ _ => rfl⟩
    · rw [if_neg hb] at hok hml ⊢
      refine ⟨by simp, fun _ => ⟨hok, by show i.c.toNat < _; omega, ?_, h.r5, h.r6, .inl h4', hml⟩, fun _ _ => rfl⟩
      intro p hp
      rcases List.mem_append.1 hp with hp | hp
      · exact h.back p hp
      · simp at hp; omega
  by_cases o13 : i.op = 13
  · have h4' := h45 (by omega)
    clear f1 f2 f3 f4 h4 h45 hnext
    rw [if_neg o8, if_neg o9, if_neg o10, if_neg o11, if_neg o12, if_pos o13] at hok hml ⊢
    by_cases hb : s.back.length = 0
    · rw [if_pos hb] at hok hml ⊢
      exact ⟨by simp, fun h0 => by simp at h0, fun _ _ => rfl⟩
    · rw [if_neg hb] at hok hml ⊢
      refine ⟨by simp, fun _ => ⟨hok, ?_, fun p hp => h.back p (List.mem_of_mem_take hp), h.r5, h.r6, .inl h4', hml⟩, fun _ _ => rfl⟩
      show s.back.getD (s.back.length - 1) 0 < _
      rw [List.getD_eq_getElem?_getD, List.getElem?_eq_getElem (by omega)]
      exact h.back _ (List.getElem_mem _)
  by_cases o14 : i.op = 14
  · have h4' := h45 (by omega)
    have n1 := hnext (by omega)
    clear f1 f2 f3 f4 h4 h45 hnext
    rw [if_neg o8, if_neg o9, if_neg o10, if_neg o11, if_neg o12, if_neg o13, if_pos o14] at hok hml ⊢
    by_cases hb : s.told.length = 100
    · rw [if_pos hb] at hok hml ⊢
      exact ⟨by simp, fun h0 => by simp at h0, fun _ _ => rfl⟩
    · rw [if_neg hb] at hok hml ⊢
      exact ⟨by simp, fun _ => ⟨hok, n1, h.back, h.r5, h.r6, .inl h4', hml⟩, fun _ _ => rfl⟩
  by_cases o15 : i.op = 15
  · rw [if_neg o8, if_neg o9, if_neg o10, if_neg o11, if_neg o12, if_neg o13, if_neg o14, if_pos o15] at hok hml ⊢
    exact ⟨by simp, fun h0 => by simp at h0, fun _ _ => rfl⟩
  rw [if_neg o8, if_neg o9, if_neg o10, if_neg o11, if_neg o12, if_neg o13, if_neg o14, if_neg o15] at hok hml ⊢
  have q1 := hI.op1
  have q2 := hI.op2
  have n1 := hnext (by omega)
  have a56 := f1 (by omega) (by omega)
  have f2' := f2 (by omega) (by omega)
  clear f1 f2 f3 f4 hnext
  refine ⟨by simp, fun _ => ⟨hok, n1, h.back, ?_, ?_, ?_, hml⟩, fun _ _ => rfl⟩
  · show (s.regs.set _ _).getD 5 0 = _
    clear h4 h45 f2'
    rw [getD_set, if_neg (by omega)]; exact h.r5
  · show (s.regs.set _ _).getD 6 0 = _
    clear h4 h45 f2'
    rw [getD_set, if_neg (by omega)]; exact h.r6
  · by_cases a4 : i.a = 4
    · have hset : ∀ v, ((s.regs.set i.a.toNat v).getD 4 0) = v := fun v => by
        clear h4 h45 f2'
        rw [getD_set, if_pos (by omega)]
      show (_ ≤ (s.regs.set i.a.toNat _).getD 4 0 ∧ (s.regs.set i.a.toNat _).getD 4 0 ≤ _) ∨ ((s.regs.set i.a.toNat _).getD 4 0 ≤ _ ∧ sndB (l.getD (s.pos + 1) default) = true)
      rw [hset, hj]
      by_cases hs2 : i.op = 5 ∧ i.a = 4 ∧ i.b = 4 ∧ i.c = 5
      · left
        have e1 : rg s i.b = s.regs.getD 4 0 := by unfold rg; rw [hs2.2.2.1]; rfl
        have e2 : rg s (i.c % 8) = 64 * r := by unfold rg; rw [hs2.2.2.2]; exact h.r5
        have e3 : reck (rg s i.b) (rg s (i.c % 8)) i.op.toNat i.c.toNat = s.regs.getD 4 0 ||| 64 * r := by rw [e1, e2, hs2.1]; rfl
        rw [e3]
        clear f2' h45
        rcases h4 with h4 | h4
        · rw [or_base' r _ h4.1 h4.2]; exact h4
        · rw [or_base r _ (by omega)]; omega
      · right
        have hf := f2' a4 hs2
        have e2 : rg s (i.c % 8) = 63 := by unfold rg; rw [hf.1.2.2]; exact h.r6
        have e3 : reck (rg s i.b) (rg s (i.c % 8)) i.op.toNat i.c.toNat = rg s i.b &&& 63 := by rw [e2, hf.1.1]; rfl
        rw [e3, hsj]
        exact ⟨Nat.and_le_right, hf.2⟩
    · left
      have h4' : 64 * r ≤ s.regs.getD 4 0 ∧ s.regs.getD 4 0 ≤ 64 * r + 63 := by
        rcases h4 with h4 | h4
        · exact h4
        · exact absurd h4.2.2.1 a4
      show _ ≤ (s.regs.set _ _).getD 4 0 ∧ (s.regs.set _ _).getD 4 0 ≤ _
      clear h4 h45 f2'
      rw [getD_set, if_neg (by omega)]
      exact h4'

/-- Two machines that are one but for the words outside region r. -/
structure Agree (r : Nat) (s t : Mc) : Prop where
  pos : s.pos = t.pos
  back : s.back = t.back
  regs : s.regs = t.regs
  told : s.told = t.told
  len : s.mem.length = t.mem.length
  mem : ∀ j, 64 * r ≤ j → j ≤ 64 * r + 63 → s.mem.getD j 0 = t.mem.getD j 0
theorem step_agree {r : Nat} {l : List Ins} {s t : Mc} (_hr : r < 16) (ht : Trusted l) (h : Keeps r l s) (hk : Agree r s t) :
    (step l s).2 = (step l t).2 ∧ Agree r (step l s).1 (step l t).1 := by
  have hpos := h.pos
  have hin : l[s.pos]? = some l[s.pos] := List.getElem?_eq_getElem hpos
  obtain ⟨_, _, f3, _⟩ := badB_false (ht.each s.pos hpos)
  have hgd : l.getD s.pos default = l[s.pos] := by rw [List.getD_eq_getElem?_getD, hin]; rfl
  have h4 := h.r4
  have h16 := h.mem
  rw [hgd] at h4
  obtain ⟨tp, tb, tr, tt, tm⟩ := t
  obtain ⟨sp, sb, sr, st, sm⟩ := s
  obtain ⟨e1, e2, e3, e4, e5, e6⟩ := hk
  simp only at e1 e2 e3 e4 e5 e6 h16 h4
  subst e1 e2 e3 e4
  unfold step
  rw [hin]
  generalize l[sp] = i at *
  have hrg : ∀ z, rg ⟨sp, sb, sr, st, sm⟩ z = rg ⟨sp, sb, sr, st, tm⟩ z := fun _ => rfl
  have hB : i.op = 8 ∨ i.op = 9 → 64 * r ≤ rg ⟨sp, sb, sr, st, tm⟩ i.b ∧ rg ⟨sp, sb, sr, st, tm⟩ i.b ≤ 64 * r + 63 := fun ho => by
    have hb := f3 ho
    have hx : rg ⟨sp, sb, sr, st, tm⟩ i.b = sr.getD 4 0 := by unfold rg; rw [hb]; rfl
    rw [hx]
    rcases h4 with h4 | h4
    · exact h4
    · simp [sndB] at h4; omega
  clear f3 h4
  simp only [hrg]
  have hme : Agree r ⟨sp, sb, sr, st, sm⟩ ⟨sp, sb, sr, st, tm⟩ := ⟨rfl, rfl, rfl, rfl, e5, e6⟩
  repeat' split
  all_goals first
    | exact ⟨rfl, rfl, rfl, rfl, rfl, e5, e6⟩
    | (exfalso; simp only at *; omega)
    | skip
  · rename_i o8 _ _
    have := hB (.inl o8)
    exact ⟨rfl, rfl, rfl, by simp only; rw [e6 _ this.1 this.2], rfl, e5, e6⟩
  · refine ⟨rfl, rfl, rfl, rfl, rfl, by simpa using e5, fun j h1 h2 => ?_⟩
    simp only [getD_set]
    rw [e5, e6 j h1 h2]

theorem runs_trust {r : Nat} {l : List Ins} (hr : r < 16) (ht : Trusted l) : ∀ (n : Nat) (s t : Mc), Keeps r l s → Agree r s t →
    (runs l n s).2 ≠ 3 ∧ (runs l n s).2 ≠ 0 ∧ (runs l n s).2 = (runs l n t).2 ∧ Agree r (runs l n s).1 (runs l n t).1 ∧ ∀ j, j < 64 * r ∨ 64 * r + 64 ≤ j → (runs l n s).1.mem.getD j 0 = s.mem.getD j 0
  | 0, s, t, h, hk => ⟨by simp [runs], by simp [runs], rfl, hk, fun _ _ => rfl⟩
  | n + 1, s, t, h, hk => by
    obtain ⟨a1, a2, a3⟩ := step_keeps hr ht h
    obtain ⟨b1, b2⟩ := step_agree hr ht h hk
    by_cases h0 : (step l s).2 = 0
    · rw [runs_go h0, runs_go (by rw [← b1]; exact h0)]
      obtain ⟨c1, c2, c3, c4, c5⟩ := runs_trust hr ht n _ _ (a2 h0) b2
      exact ⟨c1, c2, c3, c4, fun j hj => (c5 j hj).trans (a3 j hj)⟩
    · rw [runs_stop h0, runs_stop (by rw [← b1]; exact h0)]
      exact ⟨a1, h0, b1, b2, a3⟩
end Go.Proofs.YtdjamdbamkhblabDoor
