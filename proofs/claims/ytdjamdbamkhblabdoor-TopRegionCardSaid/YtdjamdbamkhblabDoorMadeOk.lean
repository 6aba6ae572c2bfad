/- Made code is trusted; what a verification that finds nothing says: plain mathematics. -/
import Derived.Test.YtdjamdbamkhblabDoorSim
import Derived.Test.YtdjamdbamkhblabDoorChk
namespace Go.Proofs.YtdjamdbamkhblabDoor
theorem vrf_zero_iff (n : Nat) (l : List Ins) : vrf n l = 0 ↔ ∀ k (h : k < l.length), badB n l[k] (l.getD (k + 1) default) = false := by
  induction l with
  | nil => simp [vrf]
  | cons i r ih =>
    rw [vrf]
    have e0 : (i :: r).getD 1 default = r.headD default := by cases r <;> rfl
    by_cases h1 : badB n i (r.headD default) = true
    · rw [if_pos h1]
      refine ⟨fun h => by omega, fun h => ?_⟩
      have := h 0 (by simp)
      rw [e0] at this
      simp only [List.getElem_cons_zero] at this
      rw [h1] at this; cases this
    · rw [if_neg h1, ih]
      refine ⟨fun h k hk => ?_, fun h k hk => h (k + 1) (by simpa using hk)⟩
      cases k with
      | zero => rw [e0]; simpa using h1
      | succ k => exact h k (by simpa using hk)
theorem lastOk_iff (l : List Ins) : lastOk l = true ↔ ∃ h : 0 < l.length, endB l[l.length - 1] = true := by
  unfold lastOk
  rw [List.getLast?_eq_getElem?]
  by_cases h : 0 < l.length
  · rw [List.getElem?_eq_getElem (by omega)]
    exact ⟨fun e => ⟨h, e⟩, fun ⟨_, e⟩ => e⟩
  · rw [List.getElem?_eq_none (by omega)]
    exact ⟨fun e => (nomatch e), fun ⟨h', _⟩ => absurd h' h⟩
theorem verify_zero_iff (l : List Ins) : verify l = 0 ↔ check l = 0 ∧ lastOk l = true ∧ vrf l.length l = 0 := by
  unfold verify
  split
  · rename_i h
    split
    · rename_i h2
      exact ⟨fun e => ⟨h, h2, e⟩, fun e => e.2.2⟩
    · rename_i h2
      exact ⟨fun e => by omega, fun e => absurd e.2.1 h2⟩
  · rename_i h
    exact ⟨fun e => absurd e h, fun e => absurd e.1 h⟩
theorem trusted_of_verify {l : List Ins} (h : verify l = 0) : Trusted l ∧ 0 < l.length ∧ l.length ≤ 200 := by
  obtain ⟨h1, h2, h3⟩ := (verify_zero_iff l).1 h
  obtain ⟨hp, hl⟩ := (lastOk_iff l).1 h2
  refine ⟨⟨codeOk_of_check h1, fun k hk e => ?_, (vrf_zero_iff _ l).1 h3⟩, hp, ((check_zero_iff l).1 h1).1⟩
  obtain rfl : k = l.length - 1 := by omega
  exact hl

/-- Every place of the made code stands in the piece of one instruction. -/
theorem flat_index (l0 : List Ins) : ∀ (l : List Ins) (q : Nat), q < (l.flatMap (mkI l0)).length → ∃ k j, ∃ h : k < l.length, j < (mkI l0 l[k]).length ∧ q = ((l.take k).flatMap (mkI l0)).length + j
  | [], q, h => by simp at h
  | i :: r, q, h => by
    rw [List.flatMap_cons, List.length_append] at h
    by_cases hq : q < (mkI l0 i).length
    · exact ⟨0, q, by simp, hq, by simp⟩
    · obtain ⟨k, j, hk, hj, e⟩ := flat_index l0 r (q - (mkI l0 i).length) (by omega)
      exact ⟨k + 1, j, by simpa using hk, by simpa using hj, by rw [List.take_succ_cons, List.flatMap_cons, List.length_append]; omega⟩
theorem madeOf_length (l : List Ins) : (madeOf l).length = atMap l l.length := by
  have := atMap_flat (l := l) (Nat.le_refl _)
  rw [List.take_length] at this
  exact this
theorem atMap_mono {l : List Ins} {a b : Nat} (h : a ≤ b) : atMap l a ≤ atMap l b := by
  unfold atMap
  have hs : (l.take a).Sublist (l.take b) := by
    have : l.take a = (l.take b).take a := by rw [List.take_take, Nat.min_eq_left h]
    rw [this]
    exact List.take_sublist _ _
  have := hs.countP_le (p := ldB)
  omega
theorem atMap_lt {l : List Ins} {k : Nat} (h : k < l.length) : atMap l k < (madeOf l).length := by
  rw [madeOf_length]
  have h1 := atMap_succ h
  have h2 := atMap_mono (l := l) (show k + 1 ≤ l.length by omega)
  omega
theorem madeOf_le (l : List Ins) : l.length ≤ (madeOf l).length ∧ (madeOf l).length ≤ 3 * l.length := by
  rw [madeOf_length, atMap, List.take_length]
  have := List.countP_le_length (p := ldB) (l := l)
  omega

/-- Made code is trusted. -/
theorem made_verify {l : List Ins} (hp : PlainOk l) (h0 : 0 < l.length) (hck : chk l = 0) (h200 : (madeOf l).length ≤ 200) : verify (madeOf l) = 0 := by
  have hok := (chk_zero_iff l).1 hck
  -- what stands at a place
  have at_ : ∀ q (hq : q < (madeOf l).length), ∃ k, ∃ hk : k < l.length,
      ((ldB l[k] = true ∧ (((madeOf l)[q] = ⟨4, 4, l[k].b, 6⟩ ∧ (madeOf l)[q + 1]? = some ⟨5, 4, 4, 5⟩) ∨ (madeOf l)[q] = ⟨5, 4, 4, 5⟩ ∨ (madeOf l)[q] = ⟨l[k].op, l[k].a, 4, l[k].c⟩)) ∨
       (ldB l[k] = false ∧ jmpB l[k] = true ∧ (madeOf l)[q] = ⟨l[k].op, l[k].a, l[k].b, (atMap l l[k].c.toNat : Nat)⟩) ∨
       (ldB l[k] = false ∧ jmpB l[k] = false ∧ (madeOf l)[q] = l[k])) := by
    intro q hq
    obtain ⟨k, j, hk, hj, e⟩ := flat_index l l q hq
    rw [atMap_flat (by omega)] at e
    have hm := fun j hj => made_at hk j hj
    have hq1 := hm j hj
    rw [← e, List.getElem?_eq_getElem hq] at hq1
    refine ⟨k, hk, ?_⟩
    cases hld : ldB l[k] with
    | true =>
      have mk : mkI l l[k] = [⟨4, 4, l[k].b, 6⟩, ⟨5, 4, 4, 5⟩, ⟨l[k].op, l[k].a, 4, l[k].c⟩] := by unfold mkI; rw [if_pos hld]
      rw [mk] at hq1 hj hm
      left
      refine ⟨rfl, ?_⟩
      match j, hj with
      | 0, _ => left; exact ⟨by simpa using hq1, by have := hm 1 (by simp); rw [e]; exact this⟩
      | 1, _ => right; left; simpa using hq1
      | 2, _ => right; right; simpa using hq1
    | false =>
      right
      have hj0 : j = 0 := by
        have := mkI_length l l[k]
        rw [hld] at this
        simp at this
        omega
      subst hj0
      cases hjb : jmpB l[k] with
      | true =>
        have mk : mkI l l[k] = [⟨l[k].op, l[k].a, l[k].b, (atMap l l[k].c.toNat : Nat)⟩] := by unfold mkI; rw [if_neg (by rw [hld]; decide), if_pos hjb]
        rw [mk] at hq1
        left
        exact ⟨rfl, rfl, by simpa using hq1⟩
      | false =>
        have mk : mkI l l[k] = [l[k]] := by unfold mkI; rw [if_neg (by rw [hld]; decide), if_neg (by rw [hjb]; decide)]
        rw [mk] at hq1
        right
        exact ⟨rfl, rfl, by simpa using hq1⟩
  have hlen := (madeOf_le l).1
  refine (verify_zero_iff _).2 ⟨(check_zero_iff _).2 ⟨h200, (chk_zero_iff _).2 fun i hi => ?_⟩, (lastOk_iff _).2 ⟨by omega, ?_⟩, (vrf_zero_iff _ _).2 fun q hq => ?_⟩
  · obtain ⟨q, hq, rfl⟩ := List.mem_iff_getElem.1 hi
    obtain ⟨k, hk, hc⟩ := at_ q hq
    obtain ⟨⟨o1, o2⟩, o3⟩ := hok _ (List.getElem_mem hk)
    obtain ⟨ha, hb, hcc⟩ := (okI_iff _).1 o3
    obtain ⟨fa, fb, fc, fj⟩ := unplainB_false (hp.each k hk)
    rcases hc with ⟨hld, hc⟩ | ⟨hld, hjb, hc⟩ | ⟨hld, hjb, hc⟩
    · have ho : l[k].op = 8 ∨ l[k].op = 9 := by simpa [ldB] using hld
      have b7 := gB_le l[k].op
      rcases hc with ⟨hc, _⟩ | hc | hc
      · rw [hc]
        refine ⟨by simp, (okI_iff _).2 ⟨(by decide : (0 : Int) ≤ 4 ∧ (4 : Int) ≤ gA 4), ?_, (by decide : (0 : Int) ≤ 6 ∧ (6 : Int) ≤ gC 4)⟩⟩
        show 0 ≤ l[k].b ∧ l[k].b ≤ 7
        omega
      · rw [hc]; exact ⟨by decide, by decide⟩
      · rw [hc]
        refine ⟨⟨o1, o2⟩, (okI_iff _).2 ⟨ha, ?_, hcc⟩⟩
        show 0 ≤ (4 : Int) ∧ 4 ≤ gB l[k].op
        unfold gB
        rw [if_pos (by omega)]
        omega
    · rw [hc]
      have ho : l[k].op = 10 ∨ l[k].op = 11 ∨ l[k].op = 12 := by simpa [jmpB] using hjb
      have hlt := fj ho
      have := atMap_lt (l := l) (k := l[k].c.toNat) (by omega)
      refine ⟨⟨o1, o2⟩, (okI_iff _).2 ⟨ha, hb, ?_⟩⟩
      show 0 ≤ ((atMap l l[k].c.toNat : Nat) : Int) ∧ ((atMap l l[k].c.toNat : Nat) : Int) ≤ gC l[k].op
      unfold gC
      rw [if_neg (by omega), if_neg (by omega), if_pos (by omega)]
      omega
    · rw [hc]; exact ⟨⟨o1, o2⟩, o3⟩
  · have hE := hp.last (l.length - 1) (by omega) (by omega)
    have hE' : l[l.length - 1].op = 10 ∨ l[l.length - 1].op = 13 ∨ l[l.length - 1].op = 15 := by simpa [endB] using hE
    have hld : ldB l[l.length - 1] = false := by simp [ldB]; omega
    have hm := made_at (l := l) (k := l.length - 1) (by omega) 0 (by rw [mkI_length]; omega)
    have hs := atMap_succ (l := l) (k := l.length - 1) (by omega)
    rw [hld, show l.length - 1 + 1 = l.length by omega, ← madeOf_length] at hs
    simp only [Bool.false_eq_true, if_false, Nat.mul_zero, Nat.add_zero] at hs
    rw [Nat.add_zero, show atMap l (l.length - 1) = (madeOf l).length - 1 by omega, List.getElem?_eq_getElem (by omega)] at hm
    unfold mkI at hm
    rw [if_neg (by rw [hld]; decide)] at hm
    split at hm
    · simp only [List.getElem?_cons_zero, Option.some.injEq] at hm
      rw [hm]
      simp only [endB, decide_eq_true_eq]
      exact hE'
    · simp only [List.getElem?_cons_zero, Option.some.injEq] at hm
      rw [hm]; exact hE
  · obtain ⟨k, hk, hc⟩ := at_ q hq
    obtain ⟨⟨o1, o2⟩, o3⟩ := hok _ (List.getElem_mem hk)
    obtain ⟨fa, fb, fc, fj⟩ := unplainB_false (hp.each k hk)
    rcases hc with ⟨hld, hc⟩ | ⟨hld, hjb, hc⟩ | ⟨hld, hjb, hc⟩
    · have ho : l[k].op = 8 ∨ l[k].op = 9 := by simpa [ldB] using hld
      rcases hc with ⟨hc, hn⟩ | hc | hc
      · rw [hc, List.getD_eq_getElem?_getD, hn]
        simp [badB, wrB, fstB, sndB, jmpB]
      · rw [hc]
        simp [badB, wrB, fstB, sndB, jmpB]
      · rw [hc]
        have h1 : l[k].a ≠ 4 := by omega
        have h2 : l[k].a ≠ 5 := by omega
        have h3 : l[k].a ≠ 6 := by omega
        rcases ho with ho | ho <;> simp [badB, wrB, jmpB, ho, h1, h2, h3]
    · rw [hc]
      have ho : l[k].op = 10 ∨ l[k].op = 11 ∨ l[k].op = 12 := by simpa [jmpB] using hjb
      have hlt := fj ho
      have := atMap_lt (l := l) (k := l[k].c.toNat) (by omega)
      rcases ho with ho | ho | ho <;> simp [badB, wrB, jmpB, ho] <;> omega
    · rw [hc]
      have h1 : l[k].a ≠ 4 := by omega
      have h2 : l[k].a ≠ 5 := by omega
      have h3 : l[k].a ≠ 6 := by omega
      have h8 : l[k].op ≠ 8 ∧ l[k].op ≠ 9 := by simpa [ldB] using hld
      simp [badB, hjb, h1, h2, h3, h8.1, h8.2]
end Go.Proofs.YtdjamdbamkhblabDoor
