/- What K.Mem and K.Code make of raw things, and what the top laws make of code: plain mathematics. -/
import Derived.Test.YtdjamdbamkhblacDoorPick
import Derived.Test.YtdjamdbamkhblacDoorChk
import Derived.Test.YtdjamdbamkhblacDoorWords
namespace Go.Proofs.YtdjamdbamkhblacDoor
open Go.RowKit
/-- One instruction of K.Code. -/
def codeI (r : Ins) : Ins :=
  if pick r.op 15 = 0 then ⟨1, (pick r.a 8 : Nat), 0, if pick r.b 2 = 0 then (pick r.c 100 : Nat) else (pick r.c 65536 : Nat)⟩
  else if pick r.op 15 = 7 ∨ pick r.op 15 = 8 then ⟨1 + (pick r.op 15 : Nat), (pick r.a 8 : Nat), (pick r.b 8 : Nat), 0⟩
  else if pick r.op 15 = 9 ∨ pick r.op 15 = 11 then ⟨1 + (pick r.op 15 : Nat), 0, 0, (pick r.c 45 : Nat)⟩
  else if pick r.op 15 = 10 then ⟨11, (pick r.a 8 : Nat), 0, (pick r.c 45 : Nat)⟩
  else if pick r.op 15 = 12 ∨ pick r.op 15 = 14 then ⟨1 + (pick r.op 15 : Nat), 0, 0, 0⟩
  else if pick r.op 15 = 13 then ⟨14, (pick r.a 8 : Nat), 0, 0⟩
  else ⟨1 + (pick r.op 15 : Nat), (pick r.a 8 : Nat), (pick r.b 8 : Nat), (pick r.c 8 : Nat)⟩
def codeL (l : List Ins) : List Ins := (l.take 40).map codeI ++ [⟨15, 0, 0, 0⟩]
theorem codeL_length (l : List Ins) : (codeL l).length ≤ 41 := by simp [codeL]; omega
theorem codeI_ok (r : Ins) : (1 ≤ (codeI r).op ∧ (codeI r).op ≤ 15) ∧ okI (codeI r) = true := by
  have ho := pick_lt r.op (m := 15) (by omega)
  have ha := pick_lt r.a (m := 8) (by omega)
  have hb := pick_lt r.b (m := 8) (by omega)
  have hc := pick_lt r.c (m := 8) (by omega)
  have hc100 := pick_lt r.c (m := 100) (by omega)
  have hcw := pick_lt r.c (m := 65536) (by omega)
  have hc45 := pick_lt r.c (m := 45) (by omega)
  unfold codeI
  by_cases h0 : pick r.op 15 = 0
  · rw [if_pos h0]; split <;> simp [okI, gA, gB, gC] <;> omega
  rw [if_neg h0]
  by_cases h1 : pick r.op 15 = 7 ∨ pick r.op 15 = 8
  · rw [if_pos h1]
    rcases h1 with h1 | h1 <;> rw [h1] <;> simp [okI, gA, gB, gC] <;> omega
  rw [if_neg h1]
  by_cases h2 : pick r.op 15 = 9 ∨ pick r.op 15 = 11
  · rw [if_pos h2]
    rcases h2 with h1 | h1 <;> rw [h1] <;> simp [okI, gA, gB, gC] <;> omega
  rw [if_neg h2]
  by_cases h3 : pick r.op 15 = 10
  · rw [if_pos h3]; simp [okI, gA, gB, gC]; omega
  rw [if_neg h3]
  by_cases h4 : pick r.op 15 = 12 ∨ pick r.op 15 = 14
  · rw [if_pos h4]
    rcases h4 with h1 | h1 <;> rw [h1] <;> simp [okI, gA, gB, gC]
  rw [if_neg h4]
  by_cases h5 : pick r.op 15 = 13
  · rw [if_pos h5]; simp [okI, gA, gB, gC]; omega
  rw [if_neg h5]
  have : pick r.op 15 = 1 ∨ pick r.op 15 = 2 ∨ pick r.op 15 = 3 ∨ pick r.op 15 = 4 ∨ pick r.op 15 = 5 ∨ pick r.op 15 = 6 := by omega
  rcases this with h | h | h | h | h | h <;> rw [h] <;> simp [okI, gA, gB, gC] <;> omega
theorem codeL_chk (l : List Ins) : chk (codeL l) = 0 := (chk_zero_iff _).2 fun i hi => by
  rcases List.mem_append.1 hi with h | h
  · obtain ⟨r, _, rfl⟩ := List.mem_map.1 h
    exact codeI_ok r
  · obtain rfl : i = ⟨15, 0, 0, 0⟩ := by simpa using h
    exact ⟨⟨by decide, by decide⟩, rfl⟩
end Go.Proofs.YtdjamdbamkhblacDoor
