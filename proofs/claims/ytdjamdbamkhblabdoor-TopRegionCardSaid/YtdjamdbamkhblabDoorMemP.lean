/- What K.Mem and K.Code make of raw things, and what the top laws make of code: plain mathematics. -/
import Derived.Test.YtdjamdbamkhblabDoorPick
import Derived.Test.YtdjamdbamkhblabDoorChk
import Derived.Test.YtdjamdbamkhblabDoorWords
namespace Go.Proofs.YtdjamdbamkhblabDoor
open Go.RowKit
/-- The number that K.Mem has come to at a step. -/
def memN (r : Ins) : Nat → Nat
  | 0 => pick r.a 65536
  | i + 1 => (memN r i * 31 + pick r.b 1000 + 7) % 65536
def memV (r : Ins) (i : Nat) : Nat := if pick (wrap64 (r.c + i)) 3 = 0 then memN r (i + 1) % 70 else memN r i
def memTo (r : Ins) (k : Nat) : List Int := (List.range k).map fun i => (memV r i : Int)
theorem memN_lt (r : Ins) (i : Nat) : memN r i < 65536 := by
  cases i with
  | zero => exact pick_lt _ (by omega)
  | succ i => exact Nat.mod_lt _ (by omega)
theorem memV_lt (r : Ins) (i : Nat) : memV r i < 65536 := by
  unfold memV
  have := memN_lt r i
  split <;> omega
theorem memTo_succ (r : Ins) (k : Nat) : memTo r (k + 1) = memTo r k ++ [(memV r k : Int)] := by simp [memTo, List.range_succ]
theorem memTo_length (r : Ins) (k : Nat) : (memTo r k).length = k := by simp [memTo]
theorem memTo_odd (r : Ins) (k : Nat) : (memTo r k).any oddW = false := by
  rw [List.any_eq_false]
  intro x hx
  simp only [memTo, List.mem_map] at hx
  obtain ⟨i, _, rfl⟩ := hx
  have := memV_lt r i
  simp [oddW]; omega
/-- One instruction of K.Code. -/
def codeI (r : Ins) : Ins :=
  if pick r.op 15 = 0 then ⟨1, (pick r.a 8 : Nat), 0, if pick r.b 2 = 0 then (pick r.c 100 : Nat) else (pick r.c 65536 : Nat)⟩
  else if pick r.op 15 = 7 ∨ pick r.op 15 = 8 then ⟨1 + (pick r.op 15 : Nat), (pick r.a 8 : Nat), (pick r.b 8 : Nat), 0⟩
  else if pick r.op 15 = 9 ∨ pick r.op 15 = 11 then ⟨1 + (pick r.op 15 : Nat), 0, 0, (pick r.c 45 : Nat)⟩
  else if pick r.op 15 = 10 then ⟨11, (pick r.a 8 : Nat), 0, (pick r.c 45 : Nat)⟩
  else if pick r.op 15 = 12 ∨ pick r.op 15 = 14 then ⟨1 + (pick r.op 15 : Nat), 0, 0, 0⟩
  else if pick r.op 15 = 13 then ⟨14, (pick r.a 8 : Nat), 0, 0⟩
  else ⟨1 + (pick r.op 15 : Nat), (pick r.a 8 : Nat), (pick r.b 8 : Nat), (pick r.c 8 : Nat)⟩
def codeL (l : List Ins) : List Ins := (l.take 40).map codeI ++ [⟨15, 0, 0, 0⟩]
theorem codeL_length (l : List Ins) : (codeL l).length ≤ 41 := by simp [codeL]; omega
theorem codeI_ok (r : Ins) : (1 ≤ (codeI r).op ∧ (codeI r).op ≤ 15) ∧ okI (codeI r) = true := by
  have ho := pick_lt r.op (m := 15) (by omega)
  have ha := pick_lt r.a (m := 8) (by omega)
  have hb := pick_lt r.b (m := 8) (by omega)
  have hc := pick_lt r.c (m := 8) (by omega)
  have hc100 := pick_lt r.c (m := 100) (by omega)
  have hcw := pick_lt r.c (m := 65536) (by omega)
  have hc45 := pick_lt r.c (m := 45) (by omega)
  unfold codeI
  by_cases h0 : pick r.op 15 = 0
  · rw [if_pos h0]; split <;> simp [okI, gA, gB, gC] <;> omega
  rw [if_neg h0]
  by_cases h1 : pick r.op 15 = 7 ∨ pick r.op 15 = 8
  · rw [if_pos h1]
    rcases h1 with h1 | h1 <;> rw [h1] <;> simp [okI, gA, gB, gC] <;> omega
  rw [if_neg h1]
  by_cases h2 : pick r.op 15 = 9 ∨ pick r.op 15 = 11
  · rw [if_pos h2]
    rcases h2 with h1 | h1 <;> rw [h1] <;> simp [okI, gA, gB, gC] <;> omega
  rw [if_neg h2]
  by_cases h3 : pick r.op 15 = 10
  · rw [if_pos h3]; simp [okI, gA, gB, gC]; omega
  rw [if_neg h3]
  by_cases h4 : pick r.op 15 = 12 ∨ pick r.op 15 = 14
  · rw [if_pos h4]
    rcases h4 with h1 | h1 <;> rw [h1] <;> simp [okI, gA, gB, gC]
  rw [if_neg h4]
  by_cases h5 : pick r.op 15 = 13
  · rw [if_pos h5]; simp [okI, gA, gB, gC]; omega
  rw [if_neg h5]
  have : pick r.op 15 = 1 ∨ pick r.op 15 = 2 ∨ pick r.op 15 = 3 ∨ pick r.op 15 = 4 ∨ pick r.op 15 = 5 ∨ pick r.op 15 = 6 := by omega
  rcases this with h | h | h | h | h | h <;> rw [h] <;> simp [okI, gA, gB, gC] <;> omega
theorem codeL_chk (l : List Ins) : chk (codeL l) = 0 := (chk_zero_iff _).2 fun i hi => by
  rcases List.mem_append.1 hi with h | h
  · obtain ⟨r, _, rfl⟩ := List.mem_map.1 h
    exact codeI_ok r
  · obtain rfl : i = ⟨15, 0, 0, 0⟩ := by simpa using h
    exact ⟨⟨by decide, by decide⟩, rfl⟩
/-- What the law's trusted does with an instruction of code. -/
def trI (i : Ins) : List Ins :=
  if i.op = 8 ∨ i.op = 9 then [⟨i.op, i.a, 4, i.c⟩] else if i.op = 4 ∧ i.a = 4 then [⟨i.op, i.a, i.b, 6⟩, ⟨5, 4, 4, 5⟩] else [i]
def trL (l : List Ins) : List Ins := l.flatMap trI
theorem trI_length (i : Ins) : (trI i).length ≤ 2 := by
  unfold trI
  repeat' split
  all_goals simp
theorem trL_length (l : List Ins) : (trL l).length ≤ 2 * l.length := by
  induction l with
  | nil => simp [trL]
  | cons i r ih =>
    have := trI_length i
    simp [trL] at ih ⊢
    omega
end Go.Proofs.YtdjamdbamkhblabDoor
