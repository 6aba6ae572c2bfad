/- What K.Plain makes of raw things is plain code, what is made of it is trusted, and what the law MadeSafe puts before it is not: plain mathematics. -/
import Derived.Test.YtdjamdbamkhblabDoorMadeOk
import Derived.Test.YtdjamdbamkhblabDoorPick
namespace Go.Proofs.YtdjamdbamkhblabDoor
/-- One instruction of K.Plain. -/
def plainI (n i : Nat) (r : Ins) : Ins :=
  if pick r.op 14 = 0 then ⟨1, (pick r.a 4 : Nat), 0, (pick r.c 80 : Nat)⟩
  else if pick r.op 14 = 7 ∨ pick r.op 14 = 8 then ⟨1 + (pick r.op 14 : Nat), (pick r.a 4 : Nat), (pick r.b 4 : Nat), 0⟩
  else if pick r.op 14 = 9 ∨ pick r.op 14 = 11 then (if pick r.b 9 = 0 then ⟨12, 0, 0, ((i + pick r.c (n + 1 - i) : Nat) : Int)⟩ else ⟨11, (pick r.a 4 : Nat), 0, ((i + pick r.c (n + 1 - i) : Nat) : Int)⟩)
  else if pick r.op 14 = 10 then ⟨11, (pick r.a 4 : Nat), 0, if pick r.b 12 = 0 then (pick r.c (n + 1) : Nat) else ((i + pick r.c (n + 1 - i) : Nat) : Int)⟩
  else if pick r.op 14 = 12 then (if 0 < pick r.c 3 then ⟨2, 1, 2, 3⟩ else ⟨13, 0, 0, 0⟩)
  else if pick r.op 14 = 13 then ⟨14, (pick r.a 4 : Nat), 0, 0⟩
  else ⟨1 + (pick r.op 14 : Nat), (pick r.a 4 : Nat), (pick r.b 4 : Nat), (pick r.c 4 : Nat)⟩
def plainTo (l : List Ins) (n k : Nat) : List Ins := (List.range k).map fun i => plainI n i (l.getD i default)
def plainN (l : List Ins) : Nat := min l.length 30
/-- What K.Plain makes of raw things. -/
def plainL (l : List Ins) : List Ins := plainTo l (plainN l) (plainN l) ++ [⟨13, 0, 0, 0⟩]
theorem plainTo_succ (l : List Ins) (n k : Nat) : plainTo l n (k + 1) = plainTo l n k ++ [plainI n k (l.getD k default)] := by
  simp [plainTo, List.range_succ]
theorem plainTo_length (l : List Ins) (n k : Nat) : (plainTo l n k).length = k := by simp [plainTo]
theorem plainL_length (l : List Ins) : (plainL l).length = plainN l + 1 := by simp [plainL, plainTo_length]
theorem plainN_le (l : List Ins) : plainN l ≤ 30 := by unfold plainN; omega
theorem pick_le3 (n : Int) : (pick n 4 : Nat) ≤ 3 := by have := pick_lt n (m := 4) (by omega); omega
theorem plainI_ok (n i : Nat) (r : Ins) (hi : i ≤ n) (hn : n ≤ 30) : (1 ≤ (plainI n i r).op ∧ (plainI n i r).op ≤ 15) ∧ okI (plainI n i r) = true ∧ unplainB (n + 1) (plainI n i r) = false := by
  have ho := pick_lt r.op (m := 14) (by omega)
  have ha := pick_le3 r.a
  have hb := pick_le3 r.b
  have hc := pick_le3 r.c
  have hc80 := pick_lt r.c (m := 80) (by omega)
  have hc1 := pick_lt r.c (m := n + 1 - i) (by omega)
  have hc2 := pick_lt r.c (m := n + 1) (by omega)
  unfold plainI
  by_cases h0 : pick r.op 14 = 0
  · rw [if_pos h0]; simp [okI, gA, gB, gC, unplainB, oddB, jmpB]; omega
  rw [if_neg h0]
  by_cases h1 : pick r.op 14 = 7 ∨ pick r.op 14 = 8
  · rw [if_pos h1]
    rcases h1 with h1 | h1 <;> rw [h1] <;> simp [okI, gA, gB, gC, unplainB, oddB, jmpB] <;> omega
  rw [if_neg h1]
  by_cases h2 : pick r.op 14 = 9 ∨ pick r.op 14 = 11
  · rw [if_pos h2]
    split <;> simp [okI, gA, gB, gC, unplainB, oddB, jmpB] <;> omega
  rw [if_neg h2]
  by_cases h3 : pick r.op 14 = 10
  · rw [if_pos h3]
    split <;> simp [okI, gA, gB, gC, unplainB, oddB, jmpB] <;> omega
  rw [if_neg h3]
  by_cases h4 : pick r.op 14 = 12
  · rw [if_pos h4]
    split <;> simp [okI, gA, gB, gC, unplainB, oddB, jmpB]
  rw [if_neg h4]
  by_cases h5 : pick r.op 14 = 13
  · rw [if_pos h5]; simp [okI, gA, gB, gC, unplainB, oddB, jmpB]; omega
  rw [if_neg h5]
  have : pick r.op 14 = 1 ∨ pick r.op 14 = 2 ∨ pick r.op 14 = 3 ∨ pick r.op 14 = 4 ∨ pick r.op 14 = 5 ∨ pick r.op 14 = 6 := by omega
  rcases this with h | h | h | h | h | h <;> rw [h] <;> simp [okI, gA, gB, gC, unplainB, oddB, jmpB] <;> omega
theorem plainL_at (l : List Ins) (k : Nat) (h : k < (plainL l).length) : ((1 ≤ (plainL l)[k].op ∧ (plainL l)[k].op ≤ 15) ∧ okI (plainL l)[k] = true ∧ unplainB (plainL l).length (plainL l)[k] = false) ∧ (k + 1 = (plainL l).length → (plainL l)[k] = ⟨13, 0, 0, 0⟩) := by
  have hlen := plainL_length l
  have hn := plainN_le l
  rw [hlen] at h
  rcases Nat.lt_or_ge k (plainN l) with hk | hk
  · have e : (plainL l)[k]'(by rw [hlen]; omega) = plainI (plainN l) k (l.getD k default) := by
      unfold plainL
      rw [List.getElem_append_left (by rw [plainTo_length]; exact hk)]
      simp [plainTo]
    rw [e, hlen]
    exact ⟨plainI_ok _ _ _ (by omega) hn, fun h => by omega⟩
  · have hk' : k = plainN l := by omega
    have e : (plainL l)[k]'(by rw [hlen]; omega) = ⟨13, 0, 0, 0⟩ := by
      unfold plainL
      rw [List.getElem_append_right (by rw [plainTo_length]; omega)]
      simp
    rw [e, hlen]
    refine ⟨⟨⟨by decide, by decide⟩, rfl, ?_⟩, fun _ => rfl⟩
    simp [unplainB, oddB, jmpB]
theorem plainL_ok (l : List Ins) : PlainOk (plainL l) ∧ chk (plainL l) = 0 ∧ 0 < (plainL l).length ∧ (plainL l).length ≤ 31 := by
  have hlen := plainL_length l
  have hn := plainN_le l
  have hchk : chk (plainL l) = 0 := (chk_zero_iff _).2 fun i hi => by
    obtain ⟨k, hk, rfl⟩ := List.mem_iff_getElem.1 hi
    exact ⟨(plainL_at l k hk).1.1, (plainL_at l k hk).1.2.1⟩
  refine ⟨⟨codeOk_of_check ((check_zero_iff _).2 ⟨by omega, hchk⟩), fun k hk h => ?_, fun k hk => (plainL_at l k hk).1.2.2⟩, hchk, by omega, by omega⟩
  rw [(plainL_at l k hk).2 h]
  rfl
theorem plainL_made (l : List Ins) : (plainL l).length ≤ (madeOf (plainL l)).length ∧ (madeOf (plainL l)).length ≤ 93 ∧ verify (madeOf (plainL l)) = 0 := by
  obtain ⟨h1, h2, h3, h4⟩ := plainL_ok l
  obtain ⟨h5, h6⟩ := madeOf_le (plainL l)
  exact ⟨h5, by omega, made_verify h1 h3 h2 (by omega)⟩
theorem plainL_plainB (l : List Ins) : lastOk (plainL l) = true ∧ (plainL l).any (unplainB (plainL l).length) = false := by
  obtain ⟨h1, _, h3, _⟩ := plainL_ok l
  refine ⟨(lastOk_iff _).2 ⟨h3, h1.last _ (by omega) (by omega)⟩, ?_⟩
  rw [List.any_eq_false]
  intro i hi
  obtain ⟨k, hk, rfl⟩ := List.mem_iff_getElem.1 hi
  rw [h1.each k hk]; simp
/-- The first instruction of made code is never the second of an address. -/
theorem made_first {l : List Ins} (hp : PlainOk l) (h0 : 0 < l.length) (h : 0 < (madeOf l).length) : sndB (madeOf l)[0] = false := by
  have hm := made_at (l := l) (k := 0) h0 0 (by have := mkI_length l l[0]; omega)
  have ha : atMap l 0 = 0 := by simp [atMap]
  rw [ha, List.getElem?_eq_getElem (by simpa using h)] at hm
  have hu := unplainB_false (hp.each 0 h0)
  have hsnd : ∀ x : Ins, ¬ (4 ≤ x.a ∧ x.a ≤ 6) → sndB x = false := fun x hx => by simp [sndB]; omega
  have : (madeOf l)[0] = (mkI l l[0])[0]'(by have := mkI_length l l[0]; omega) := by
    rw [List.getElem?_eq_getElem (by have := mkI_length l l[0]; omega)] at hm
    simpa using hm
  rw [this]
  by_cases hld : ldB l[0] = true
  · have mk : mkI l l[0] = [⟨4, 4, l[0].b, 6⟩, ⟨5, 4, 4, 5⟩, ⟨l[0].op, l[0].a, 4, l[0].c⟩] := by unfold mkI; rw [if_pos hld]
    simp only [mk, List.getElem_cons_zero]
    rfl
  · by_cases hj : jmpB l[0] = true
    · have mk : mkI l l[0] = [⟨l[0].op, l[0].a, l[0].b, (atMap l l[0].c.toNat : Nat)⟩] := by unfold mkI; rw [if_neg hld, if_pos hj]
      simp only [mk, List.getElem_cons_zero]
      exact hsnd _ hu.1
    · have mk : mkI l l[0] = [l[0]] := by unfold mkI; rw [if_neg hld, if_neg hj]
      simp only [mk, List.getElem_cons_zero]
      exact hsnd _ hu.1
def oddC : Nat → List Ins
  | 0 => [⟨8, 1, 2, 0⟩] | 1 => [⟨9, 1, 0, 0⟩] | 2 => [⟨1, 4, 0, 3⟩] | 3 => [⟨1, 5, 0, 0⟩] | 4 => [⟨8, 6, 4, 0⟩] | 5 => [⟨8, 4, 4, 0⟩]
  | 6 => [⟨4, 4, 1, 6⟩] | 7 => [⟨4, 4, 1, 2⟩, ⟨5, 4, 4, 5⟩] | 8 => [⟨5, 4, 1, 5⟩] | 9 => [⟨10, 0, 0, 199⟩] | _ => [⟨14, 0, 0, 0⟩]
theorem vrf_ne {n : Nat} {l : List Ins} (h : vrf n l ≠ 0) : vrf n l = 10 := by
  induction l with
  | nil => exact absurd rfl h
  | cons i r ih =>
    rw [vrf] at h ⊢
    split
    · rfl
    · rename_i hb; rw [if_neg hb] at h; exact ih h
theorem verify_bad {l : List Ins} (hc : check l = 0) (hb : lastOk l = false ∨ ∃ h : 0 < l.length, badB l.length l[0] (l.getD 1 default) = true) : verify l = 10 := by
  unfold verify
  rw [if_pos hc]
  cases hl : lastOk l with
  | false => simp
  | true =>
    rcases hb with hb | ⟨h0, hb⟩
    · rw [hl] at hb; cases hb
    · rw [if_pos rfl]
      refine vrf_ne fun hz => ?_
      have := (vrf_zero_iff _ _).1 hz 0 h0
      rw [hb] at this
      cases this
theorem chk_app {a b : List Ins} (h1 : chk a = 0) (h2 : chk b = 0) : chk (a ++ b) = 0 := (chk_zero_iff _).2 fun i hi => by
  rcases List.mem_append.1 hi with h | h
  · exact (chk_zero_iff _).1 h1 i h
  · exact (chk_zero_iff _).1 h2 i h
theorem odd_bad (m : List Ins) (k : Nat) (hk : k < 10) (hm : chk m = 0) (hl : m.length ≤ 93) (h0 : ∃ h : 0 < m.length, sndB m[0] = false) : verify (oddC k ++ m) = 10 := by
  obtain ⟨h0, hs⟩ := h0
  match m, h0, hs with
  | x :: r, _, hs =>
    have hr : r.length ≤ 92 := by simpa using hl
    have hck : ∀ o : List Ins, chk o = 0 → o.length ≤ 2 → check (o ++ x :: r) = 0 := fun o ho hn => (check_zero_iff _).2 ⟨by simp; omega, chk_app ho hm⟩
    have hs' : sndB x = false := hs
    match k, hk with
    | 0, _ => exact verify_bad (hck _ rfl (by decide)) (.inr ⟨by simp [oddC], rfl⟩)
    | 1, _ => exact verify_bad (hck _ rfl (by decide)) (.inr ⟨by simp [oddC], rfl⟩)
    | 2, _ => exact verify_bad (hck _ rfl (by decide)) (.inr ⟨by simp [oddC], rfl⟩)
    | 3, _ => exact verify_bad (hck _ rfl (by decide)) (.inr ⟨by simp [oddC], rfl⟩)
    | 4, _ => exact verify_bad (hck _ rfl (by decide)) (.inr ⟨by simp [oddC], rfl⟩)
    | 5, _ => exact verify_bad (hck _ rfl (by decide)) (.inr ⟨by simp [oddC], rfl⟩)
    | 6, _ =>
      refine verify_bad (hck _ rfl (by decide)) (.inr ⟨by simp [oddC], ?_⟩)
      show badB _ (⟨4, 4, 1, 6⟩ : Ins) x = true
      unfold badB
      rw [hs']
      rfl
    | 7, _ => exact verify_bad (hck _ rfl (by decide)) (.inr ⟨by simp [oddC], rfl⟩)
    | 8, _ => exact verify_bad (hck _ rfl (by decide)) (.inr ⟨by simp [oddC], rfl⟩)
    | 9, _ =>
      refine verify_bad (hck _ rfl (by decide)) (.inr ⟨by simp [oddC], ?_⟩)
      show badB (oddC 9 ++ x :: r).length (⟨10, 0, 0, 199⟩ : Ins) x = true
      have h9 : (oddC 9 ++ x :: r).length ≤ 94 := by simp [oddC]; omega
      generalize (oddC 9 ++ x :: r).length = n at h9
      simp [badB, jmpB]
      omega
theorem odd_last (m : List Ins) (hm : chk m = 0) (hl : m.length ≤ 93) : verify (m ++ oddC 10) = 10 := by
  refine verify_bad ((check_zero_iff _).2 ⟨by simp [oddC]; omega, chk_app hm rfl⟩) (.inl ?_)
  simp [lastOk, oddC, endB]
end Go.Proofs.YtdjamdbamkhblabDoor
