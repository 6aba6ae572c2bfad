/- Bytes leave a pipe in order, as far as there is room, and it ends when there is no writer any more: plain mathematics. -/
import Derived.Test.YtdjamdbamkhblacDoorG27
namespace Go.Proofs.YtdjamdbamkhblacDoor
open Go.RowKit
def appT (d s : ByteArray) : ByteArray := ⟨(d.data.toList ++ s.data.toList).toArray⟩
theorem appT_size (d s : ByteArray) : (appT d s).size = d.size + s.size := by
  have e1 : d.data.toList.length = d.size := by simp
  have e2 : s.data.toList.length = s.size := by simp
  show (List.toArray _).size = _
  rw [List.size_toArray, List.length_append, e1, e2]
/-- A kernel with one pipe, of which the first process has both ends. -/
def pK (t : ByteArray) (w : Bool) : Krn := { newK with pipes := t :: List.replicate 5 noS, procs := [⟨true, ⟨2, 0, 0⟩ :: (if w then ⟨3, 0, 0⟩ else default) :: List.replicate 4 default⟩, ⟨false, List.replicate 6 default⟩, ⟨false, List.replicate 6 default⟩, ⟨false, List.replicate 6 default⟩] }
theorem sp_pipe : doK newK ⟨9, 0, 0, 0, noS, noS⟩ = (pK noS true, ansN 0) := by rfl
theorem sp_close (t : ByteArray) : doK (pK t true) ⟨6, 0, 1, 0, noS, noS⟩ = (pK t false, ansN 0) := by rfl
theorem empS_false {s : ByteArray} (h : 1 ≤ s.size) : empS s = false := by
  unfold empS; rw [beq_eq_false_iff_ne]; omega
theorem empS_true {s : ByteArray} (h : s.size = 0) : empS s = true := by
  unfold empS; rw [beq_iff_eq]; exact h
theorem sp_full (t s : ByteArray) (h1 : 1 ≤ s.size) (h2 : s.size ≤ 100) (ht : t.size = 20) : doK (pK t true) ⟨8, 0, 1, 0, noS, s⟩ = (pK t true, ansE 13) := by
  show writeK (pK t true) 0 1 s = _
  have he : ¬ (empS s = true ∨ 100 < s.size) := by rw [empS_false h1]; simp; omega
  unfold writeK
  have hx : ((pK t true).procs.getD 0 default).ends.getD 1 default = ⟨3, 0, 0⟩ := rfl
  have hp : (pK t true).pipes.getD (0 : Int).toNat noS = t := rfl
  have hh : hasE (pK t true).procs 2 0 = true := rfl
  simp only [hx, hp, hh]
  rw [if_neg he, if_pos trivial, if_neg (by simp), if_pos ht]
theorem sp_write (t s : ByteArray) (h1 : 1 ≤ s.size) (h2 : s.size ≤ 100) (ht : t.size < 20) : doK (pK t true) ⟨8, 0, 1, 0, noS, s⟩ = (pK (appT t (cutS s 0 (min (20 - t.size) s.size))) true, ansN (min (20 - t.size) s.size)) := by
  show writeK (pK t true) 0 1 s = _
  have he : ¬ (empS s = true ∨ 100 < s.size) := by rw [empS_false h1]; simp; omega
  unfold writeK
  have hx : ((pK t true).procs.getD 0 default).ends.getD 1 default = ⟨3, 0, 0⟩ := rfl
  have hp : (pK t true).pipes.getD (0 : Int).toNat noS = t := rfl
  have hh : hasE (pK t true).procs 2 0 = true := rfl
  simp only [hx, hp, hh]
  rw [if_neg he, if_pos trivial, if_neg (by simp), if_neg (by omega)]
  have e : appT t (cutS s 0 (min (20 - t.size) s.size)) = ⟨(t.data.toList ++ s.data.toList.take (min (20 - t.size) s.size)).toArray⟩ := by
    unfold appT cutS
    rw [List.drop_zero]
  rw [e]
  rfl
theorem sp_empty (t : ByteArray) (w : Bool) (m : Nat) (h1 : 1 ≤ m) (h2 : m ≤ 100) (ht : t.size = 0) : doK (pK t w) ⟨7, 0, 0, m, noS, noS⟩ = (pK t w, ansE (if w then 13 else 12)) := by
  show readK (pK t w) 0 0 (m : Int) = _
  unfold readK
  have hx : ((pK t w).procs.getD 0 default).ends.getD 0 default = ⟨2, 0, 0⟩ := rfl
  have hp : (pK t w).pipes.getD (0 : Int).toNat noS = t := rfl
  have hh : hasE (pK t w).procs 3 0 = w := by cases w <;> rfl
  simp only [hx, hp, hh]
  rw [if_neg (by omega), if_pos trivial, if_pos (empS_true ht)]
theorem sp_read (t : ByteArray) (w : Bool) (m : Nat) (h1 : 1 ≤ m) (h2 : m ≤ 100) (ht : 1 ≤ t.size) : doK (pK t w) ⟨7, 0, 0, m, noS, noS⟩ = (pK (cutS t (min m t.size) t.size) w, ⟨0, (min m t.size : Nat), cutS t 0 (min m t.size)⟩) := by
  show readK (pK t w) 0 0 (m : Int) = _
  unfold readK
  have hx : ((pK t w).procs.getD 0 default).ends.getD 0 default = ⟨2, 0, 0⟩ := rfl
  have hp : (pK t w).pipes.getD (0 : Int).toNat noS = t := rfl
  simp only [hx, hp]
  rw [if_neg (by omega), if_pos trivial, if_neg (by rw [empS_false ht]; simp), Int.toNat_natCast]
  cases w <;> rfl
/-- What may stand between the making of the pipe and the closing of its writer. -/
def pipeAct (a : Akt) : Prop := (∃ s : ByteArray, a = ⟨8, 0, 1, 0, noS, s⟩ ∧ 1 ≤ s.size ∧ s.size ≤ 30) ∨ (∃ m : Nat, a = ⟨7, 0, 0, m, noS, noS⟩ ∧ 1 ≤ m ∧ m ≤ 25)
/-- The law's reckoning: what came in, what came out, or none where something is amiss. -/
def flowB : List (Akt × Ans) → ByteArray → ByteArray → Option (ByteArray × ByteArray)
  | [], i, o => some (i, o)
  | (a, x) :: r, i, o =>
    if a.kind = 8 then (if (decide (i.size = o.size + 20) != decide (x.code = 13)) || (!decide (i.size = o.size + 20) && decide (x.code ≠ 0)) then none else if i.size = o.size + 20 then flowB r i o else if 0 ≤ x.n ∧ x.n ≤ (a.data.size : Int) ∧ x.n ≤ 100 then flowB r (appT i (cutS a.data 0 x.n.toNat)) o else none)
    else if a.kind = 7 then (if decide (i.size = o.size) != (decide (x.code = 13) || decide (x.code = 12)) then none else if x.data.size ≤ 100 then flowB r i (appT o x.data) else none)
    else flowB r i o
theorem appT_assoc (a b c : ByteArray) : appT (appT a b) c = appT a (appT b c) := by simp [appT]
theorem appT_nil (a : ByteArray) : appT a noS = a := by
  obtain ⟨⟨l⟩⟩ := a
  simp [appT, noS]
theorem appT_cut (t : ByteArray) (m : Nat) : appT (cutS t 0 m) (cutS t m t.size) = t := by
  have e1 : t.data.toList.length = t.size := by simp
  unfold appT cutS
  simp only
  have e2 : t.data.toList.take t.size = t.data.toList := List.take_of_length_le (by omega)
  rw [List.drop_zero, e2, List.take_append_drop]
theorem flow_mid : ∀ (l : List Akt), (∀ a ∈ l, pipeAct a) → ∀ (t i o : ByteArray), KOk (pK t true) → t.size ≤ 20 → i = appT o t →
    ∃ t' i' o', t'.size ≤ 20 ∧ i' = appT o' t' ∧ KOk (pK t' true) ∧ (runK (pK t true) l).1 = pK t' true ∧ ∀ r, flowB (l.zip (runK (pK t true) l).2 ++ r) i o = flowB r i' o'
  | [], _, t, i, o, hk, ht, hi => ⟨t, i, o, ht, hi, hk, rfl, fun r => rfl⟩
  | a :: l, hl, t, i, o, hk, ht, hi => by
    have hsz : i.size = o.size + t.size := by rw [hi, appT_size]
    have rec_ : ∀ {t1 i1 o1 : ByteArray} {x : Ans}, (1 ≤ a.kind ∧ a.kind ≤ 11) → doK (pK t true) a = (pK t1 true, x) → t1.size ≤ 20 → i1 = appT o1 t1 → (∀ r, flowB ((a, x) :: r) i o = flowB r i1 o1) →
        ∃ t' i' o', t'.size ≤ 20 ∧ i' = appT o' t' ∧ KOk (pK t' true) ∧ (runK (pK t true) (a :: l)).1 = pK t' true ∧ ∀ r, flowB ((a :: l).zip (runK (pK t true) (a :: l)).2 ++ r) i o = flowB r i' o' := by
      intro t1 i1 o1 x ha hd ht1 hi1 hf
      obtain ⟨hk1, e⟩ := runK_step (r := l) hk ha hd
      obtain ⟨t', i', o', g1, g2, g3, g4, g5⟩ := flow_mid l (fun b hb => hl b (by simp [hb])) t1 i1 o1 hk1 ht1 hi1
      refine ⟨t', i', o', g1, g2, g3, by rw [e]; exact g4, fun r => ?_⟩
      rw [e]
      show flowB ((a, x) :: (l.zip (runK (pK t1 true) l).2 ++ r)) i o = _
      rw [hf, g5]
    rcases hl a (by simp) with ⟨s, rfl, s1, s2⟩ | ⟨m, rfl, m1, m2⟩
    · by_cases hf : t.size = 20
      · refine rec_ ⟨by simp, by simp⟩ (sp_full t s s1 (by omega) hf) ht hi fun r => ?_
        have h20 : i.size = o.size + 20 := by omega
        simp [flowB, ansE, h20]
      · have hm : min (20 - t.size) s.size ≤ s.size := by omega
        refine rec_ (i1 := appT i (cutS s 0 (min (20 - t.size) s.size))) (o1 := o) ⟨by simp, by simp⟩ (sp_write t s s1 (by omega) (by omega)) ?_ ?_ fun r => ?_
        · rw [appT_size, cutS_size _ _ _ hm]; omega
        · rw [hi, appT_assoc]
        · have h20 : ¬ i.size = o.size + 20 := by omega
          have hb : 0 ≤ ((min (20 - t.size) s.size : Nat) : Int) ∧ ((min (20 - t.size) s.size : Nat) : Int) ≤ (s.size : Int) ∧ ((min (20 - t.size) s.size : Nat) : Int) ≤ 100 := by omega
          simp [flowB, ansN, h20]
          intro h
          exact absurd (h hm) (by omega)
    · by_cases h0 : t.size = 0
      · refine rec_ ⟨by simp, by simp⟩ (sp_empty t true m m1 (by omega) h0) ht hi fun r => ?_
        have he : i.size = o.size := by omega
        have hz : noS.size ≤ 100 := by decide
        simp [flowB, ansE, he, appT_nil, hz]
      · have hm : min m t.size ≤ t.size := by omega
        refine rec_ (i1 := i) (o1 := appT o (cutS t 0 (min m t.size))) ⟨by simp, by simp⟩ (sp_read t true m m1 (by omega) (by omega)) ?_ ?_ fun r => ?_
        · rw [cutS_size _ _ _ (Nat.le_refl _)]; omega
        · rw [appT_assoc, appT_cut]; exact hi
        · have he : ¬ i.size = o.size := by omega
          have hz : (cutS t 0 (min m t.size)).size ≤ 100 := by rw [cutS_size _ _ _ hm]; omega
          simp [flowB, he, hz]
/-- The whole law. -/
theorem pipes_flow (l : List Akt) (hl : ∀ a ∈ l, pipeAct a) :
    ∃ xs y z s, (runK newK (⟨9, 0, 0, 0, noS, noS⟩ :: l ++ [⟨6, 0, 1, 0, noS, noS⟩, ⟨7, 0, 0, (100 : Nat), noS, noS⟩, ⟨7, 0, 0, (1 : Nat), noS, noS⟩])).2 = xs ++ [y, z, ansE 12] ∧ xs.length = 1 + l.length ∧
      flowB (((⟨9, 0, 0, 0, noS, noS⟩ :: l ++ [⟨6, 0, 1, 0, noS, noS⟩, ⟨7, 0, 0, (100 : Nat), noS, noS⟩] : List Akt)).zip (xs ++ [y, z])) noS noS = some (s, s) := by
  obtain ⟨k1, e1⟩ := runK_step (r := l ++ [⟨6, 0, 1, 0, noS, noS⟩, ⟨7, 0, 0, (100 : Nat), noS, noS⟩, ⟨7, 0, 0, (1 : Nat), noS, noS⟩]) newK_ok (a := ⟨9, 0, 0, 0, noS, noS⟩) ⟨by simp, by simp⟩ sp_pipe
  obtain ⟨t, i, o, g1, g2, g3, g4, g5⟩ := flow_mid l hl noS noS noS k1 (by show 0 ≤ 20; omega) rfl
  have hlen := runK_len l (pK noS true)
  have hsz : i.size = o.size + t.size := by rw [g2, appT_size]
  rw [List.cons_append, e1]
  show ∃ xs y z s, ansN 0 :: (runK (pK noS true) (l ++ _)).2 = _ ∧ _
  rw [runK_app, g4]
  have zip_ : ∀ y z, ((⟨9, 0, 0, 0, noS, noS⟩ :: l ++ [⟨6, 0, 1, 0, noS, noS⟩, ⟨7, 0, 0, (100 : Nat), noS, noS⟩] : List Akt)).zip (ansN 0 :: (runK (pK noS true) l).2 ++ [y, z]) =
      (⟨9, 0, 0, 0, noS, noS⟩, ansN 0) :: (l.zip (runK (pK noS true) l).2 ++ [(⟨6, 0, 1, 0, noS, noS⟩, y), (⟨7, 0, 0, (100 : Nat), noS, noS⟩, z)]) := fun y z => by
    rw [List.cons_append, List.cons_append, List.zip_cons_cons, List.zip_append hlen.symm]
    rfl
  have first : ∀ r, flowB ((⟨9, 0, 0, 0, noS, noS⟩, ansN 0) :: r) noS noS = flowB r noS noS := fun r => by simp [flowB]
  have close : ∀ r y, flowB ((⟨6, 0, 1, 0, noS, noS⟩, y) :: r) i o = flowB r i o := fun r y => by simp [flowB]
  by_cases h0 : t.size = 0
  · refine ⟨ansN 0 :: (runK (pK noS true) l).2, ansN 0, ansE 12, i, ?_, by simp [hlen]; omega, ?_⟩
    · simp only [List.cons_append]
      refine congrArg (fun z => ansN 0 :: ((runK (pK noS true) l).2 ++ z)) ?_
      refine runK_snd g3 ⟨by simp, by simp⟩ (sp_close t) fun k2 => ?_
      refine runK_snd k2 ⟨by simp, by simp⟩ (sp_empty t false 100 (by omega) (by omega) h0) fun k3 => ?_
      refine runK_snd k3 ⟨by simp, by simp⟩ (sp_empty t false 1 (by omega) (by omega) h0) fun _ => rfl
    · rw [zip_, first, g5, close]
      have ho : i = o := by
        have : t = noS := empS_iff.1 (empS_true h0)
        rw [g2, this, appT_nil]
      have hz : noS.size ≤ 100 := by decide
      simp [flowB, ansE, appT_nil, ho, hz]
  · refine ⟨ansN 0 :: (runK (pK noS true) l).2, ansN 0, ⟨0, (t.size : Nat), t⟩, i, ?_, by simp [hlen]; omega, ?_⟩
    · have r1 := sp_read t false 100 (by omega) (by omega) (by omega)
      rw [show min 100 t.size = t.size by omega, cutS_all] at r1
      simp only [List.cons_append]
      refine congrArg (fun z => ansN 0 :: ((runK (pK noS true) l).2 ++ z)) ?_
      refine runK_snd g3 ⟨by simp, by simp⟩ (sp_close t) fun k2 => ?_
      refine runK_snd k2 ⟨by simp, by simp⟩ r1 fun k3 => ?_
      refine runK_snd k3 ⟨by simp, by simp⟩ (sp_empty _ false 1 (by omega) (by omega) (by rw [cutS_size _ _ _ (Nat.le_refl _)]; omega)) fun _ => rfl
    · rw [zip_, first, g5, close]
      have he : ¬ i.size = o.size := by omega
      have hz : t.size ≤ 100 := by omega
      rw [g2] at he ⊢
      simp [flowB, he, hz]
/-- One step of the reckoning. -/
theorem flow_step {a : Akt} {x : Ans} {r : List (Akt × Ans)} {i o s : ByteArray} (h : flowB ((a, x) :: r) i o = some (s, s)) :
    (a.kind = 8 ∧ i.size = o.size + 20 ∧ x.code = 13 ∧ flowB r i o = some (s, s)) ∨
    (a.kind = 8 ∧ i.size ≠ o.size + 20 ∧ x.code = 0 ∧ 0 ≤ x.n ∧ x.n ≤ (a.data.size : Int) ∧ x.n ≤ 100 ∧ flowB r (appT i (cutS a.data 0 x.n.toNat)) o = some (s, s)) ∨
    (a.kind = 7 ∧ i.size = o.size ∧ (x.code = 13 ∨ x.code = 12) ∧ x.data.size ≤ 100 ∧ flowB r i (appT o x.data) = some (s, s)) ∨
    (a.kind = 7 ∧ i.size ≠ o.size ∧ x.code ≠ 13 ∧ x.code ≠ 12 ∧ x.data.size ≤ 100 ∧ flowB r i (appT o x.data) = some (s, s)) ∨
    (a.kind ≠ 8 ∧ a.kind ≠ 7 ∧ flowB r i o = some (s, s)) := by
  unfold flowB at h
  by_cases h8 : a.kind = 8
  · rw [if_pos h8] at h
    split at h
    · cases h
    rename_i hc
    by_cases hf : i.size = o.size + 20
    · rw [if_pos hf] at h
      simp [hf] at hc
      exact .inl ⟨h8, hf, hc, h⟩
    · rw [if_neg hf] at h
      simp [hf] at hc
      split at h
      · rename_i hb
        exact .inr (.inl ⟨h8, hf, hc.2, hb.1, hb.2.1, hb.2.2, h⟩)
      · cases h
  · rw [if_neg h8] at h
    by_cases h7 : a.kind = 7
    · rw [if_pos h7] at h
      split at h
      · cases h
      rename_i hc
      split at h
      · rename_i hz
        by_cases he : i.size = o.size
        · simp [he] at hc
          exact .inr (.inr (.inl ⟨h7, he, (if e : x.code = 13 then .inl e else .inr (hc e)), hz, h⟩))
        · simp [he] at hc
          exact .inr (.inr (.inr (.inl ⟨h7, he, hc.1, hc.2, hz, h⟩)))
      · cases h
    · rw [if_neg h7] at h
      exact .inr (.inr (.inr (.inr ⟨h8, h7, h⟩)))
end Go.Proofs.YtdjamdbamkhblacDoor
