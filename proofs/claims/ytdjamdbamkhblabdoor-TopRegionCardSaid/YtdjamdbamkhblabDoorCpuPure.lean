/- The machine as plain mathematics: a step, and so many steps: no program in sight. -/
import Derived.Test.YtdjamdbamkhblabDoorBase
namespace Go.Proofs.YtdjamdbamkhblabDoor
/-- A machine: its words are natural numbers. -/
structure Mc where
  pos : Nat
  back : List Nat
  regs : List Nat
  told : List Nat
  mem : List Nat
def rg (s : Mc) (i : Int) : Nat := s.regs.getD i.toNat 0
def reck (x y op c : Nat) : Nat :=
  if op = 2 then (x + y) % 65536 else if op = 3 then (x + 65536 - y) % 65536 else if op = 4 then x &&& y else if op = 5 then x ||| y else if op = 6 then x ^^^ y
  else if op = 7 then (if x < y then 1 else 0) else c
/-- A step: the machine behind it, and the end (0: it goes on). -/
def step (l : List Ins) (s : Mc) : Mc × Nat :=
  match l[s.pos]? with
  | none => (s, 3)
  | some i =>
    if i.op = 8 then (if rg s i.b < s.mem.length then ({ s with pos := s.pos + 1, regs := s.regs.set i.a.toNat (s.mem.getD (rg s i.b) 0) }, 0) else ({ s with pos := s.pos + 1 }, 3))
    else if i.op = 9 then (if rg s i.b < s.mem.length then ({ s with pos := s.pos + 1, mem := s.mem.set (rg s i.b) (rg s i.a) }, 0) else ({ s with pos := s.pos + 1 }, 3))
    else if i.op = 10 then ({ s with pos := i.c.toNat }, 0)
    else if i.op = 11 then ({ s with pos := if rg s i.a = 0 then i.c.toNat else s.pos + 1 }, 0)
    else if i.op = 12 then (if s.back.length = 16 then ({ s with pos := s.pos + 1 }, 4) else ({ s with pos := i.c.toNat, back := s.back ++ [s.pos + 1] }, 0))
    else if i.op = 13 then (if s.back.length = 0 then ({ s with pos := s.pos + 1 }, 1) else ({ s with pos := s.back.getD (s.back.length - 1) 0, back := s.back.take (s.back.length - 1) }, 0))
    else if i.op = 14 then (if s.told.length = 100 then ({ s with pos := s.pos + 1 }, 5) else ({ s with pos := s.pos + 1, told := s.told ++ [rg s i.a] }, 0))
    else if i.op = 15 then ({ s with pos := s.pos + 1 }, 1)
    else ({ s with pos := s.pos + 1, regs := s.regs.set i.a.toNat (reck (rg s i.b) (rg s (i.c % 8)) i.op.toNat i.c.toNat) }, 0)
/-- So many steps; the machine, and how it ended. -/
def runs (l : List Ins) : Nat → Mc → Mc × Nat
  | 0, s => (s, 2)
  | n + 1, s => if (step l s).2 = 0 then runs l n (step l s).1 else step l s

theorem runs_zero (l : List Ins) (s : Mc) : runs l 0 s = (s, 2) := rfl
theorem runs_go {l : List Ins} {n : Nat} {s : Mc} (h : (step l s).2 = 0) : runs l (n + 1) s = runs l n (step l s).1 := by simp [runs, h]
theorem runs_stop {l : List Ins} {n : Nat} {s : Mc} (h : (step l s).2 ≠ 0) : runs l (n + 1) s = step l s := by simp [runs, h]

/-- Every instruction's parts are within their bounds (what code.Check says), as far as steps need it. -/
structure InsOk (i : Ins) : Prop where
  op1 : 1 ≤ i.op
  op2 : i.op ≤ 15
  a0 : 0 ≤ i.a
  a7 : i.a ≤ 7
  b0 : 0 ≤ i.b
  b7 : i.b ≤ 7
  c0 : 0 ≤ i.c
  cw : i.c ≤ 65535
  c7 : 2 ≤ i.op → i.op ≤ 7 → i.c ≤ 7
def CodeOk (l : List Ins) : Prop := ∀ i ∈ l, InsOk i
structure McOk (s : Mc) : Prop where
  regs : s.regs.length = 8
  rw : ∀ x ∈ s.regs, x ≤ 65535
  mw : ∀ x ∈ s.mem, x ≤ 65535
  back : s.back.length ≤ 16
  told : s.told.length ≤ 100

theorem getD_le {l : List Nat} {b : Nat} (h : ∀ x ∈ l, x ≤ b) (k : Nat) : l.getD k 0 ≤ b := by
  rw [List.getD_eq_getElem?_getD]
  cases hk : l[k]? with
  | none => simp
  | some v => exact h v (List.mem_of_getElem? hk)
theorem set_le {l : List Nat} {b : Nat} (h : ∀ x ∈ l, x ≤ b) (k v : Nat) (hv : v ≤ b) : ∀ x ∈ l.set k v, x ≤ b := fun x hx => by
  rcases List.mem_or_eq_of_mem_set hx with h1 | h1
  · exact h x h1
  · omega
theorem rg_le {s : Mc} (h : McOk s) (i : Int) : rg s i ≤ 65535 := getD_le h.rw _
theorem reck_le {x y op c : Nat} (hx : x ≤ 65535) (hy : y ≤ 65535) (hc : c ≤ 65535) : reck x y op c ≤ 65535 := by
  unfold reck
  have h1 : x &&& y < 2 ^ 16 := Nat.and_lt_two_pow x (by omega)
  have h2 : x ||| y < 2 ^ 16 := Nat.or_lt_two_pow (by omega) (by omega)
  have h3 : x ^^^ y < 2 ^ 16 := Nat.xor_lt_two_pow (by omega) (by omega)
  repeat' split
  all_goals omega
theorem step_ok {l : List Ins} {s : Mc} (hl : CodeOk l) (h : McOk s) : McOk (step l s).1 := by
  unfold step
  cases hi : l[s.pos]? with
  | none => exact h
  | some i =>
    have hk := hl i (List.mem_of_getElem? hi)
    have hcc : i.c.toNat ≤ 65535 := by have := hk.cw; omega
    have hm := getD_le h.mw (rg s i.b)
    have hra := rg_le h i.a
    have hrk := reck_le (op := i.op.toNat) (rg_le h i.b) (rg_le h (i.c % 8)) hcc
    simp only
    repeat' split
    all_goals first
      | exact ⟨h.regs, h.rw, h.mw, h.back, h.told⟩
      | exact ⟨by simpa using h.regs, set_le h.rw _ _ hm, h.mw, h.back, h.told⟩
      | exact ⟨h.regs, h.rw, set_le h.mw _ _ hra, h.back, h.told⟩
      | exact ⟨by simpa using h.regs, set_le h.rw _ _ hrk, h.mw, h.back, h.told⟩
      | exact ⟨h.regs, h.rw, h.mw, by have := h.back; simp; omega, h.told⟩
      | exact ⟨h.regs, h.rw, h.mw, h.back, by have := h.told; simp; omega⟩
theorem step_mem {l : List Ins} {s : Mc} : (step l s).1.mem.length = s.mem.length := by
  unfold step
  cases l[s.pos]? with
  | none => rfl
  | some i =>
    simp only
    repeat' split
    all_goals simp
theorem runs_mem {l : List Ins} : ∀ (n : Nat) (s : Mc), (runs l n s).1.mem.length = s.mem.length
  | 0, s => rfl
  | n + 1, s => by
    by_cases h : (step l s).2 = 0
    · rw [runs_go h, runs_mem n, step_mem]
    · rw [runs_stop h, step_mem]
theorem runs_ok {l : List Ins} (hl : CodeOk l) : ∀ (n : Nat) (s : Mc), McOk s → McOk (runs l n s).1
  | 0, s, h => h
  | n + 1, s, h => by
    by_cases h0 : (step l s).2 = 0
    · rw [runs_go h0]; exact runs_ok hl n _ (step_ok hl h)
    · rw [runs_stop h0]; exact step_ok hl h
end Go.Proofs.YtdjamdbamkhblabDoor
