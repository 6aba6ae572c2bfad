/- What the cards' proofs of this seat share: the table that the rows list, and a world in which it lies. The machine as plain mathematics: a step, and so many steps: no program in sight. The walk of the reference's CodeFault: what it returns, for every code. The walks of safe.Verify and of its reference: what they return, for every code. Trusted code keeps to its region, and what it does hangs on its region alone: plain mathematics. What is made of plain code does what the plain code does, as far as it stays in its region: plain mathematics. What a check of code that finds nothing says: plain mathematics. -/
import Derived.Test.YtdjamdbamkhblacDoorG01
namespace Go.Proofs.YtdjamdbamkhblacDoor
open Go.RowKit Go.WideShapes Go.ChangeShapes Go.ChangeAt Go.Deep
theorem g_shapes : Tryd.prog.globalNamed "curfew/code.shapes" = some 1 := by kernel_rfl
theorem g_shapesType : (Tryd.prog.globals[1]?).map (·.type) = some 120 := by kernel_rfl
theorem cells_shapes : Tryd.prog.cellsOf 120 = 16 := by kernel_rfl
theorem cells_string : Tryd.prog.cellsOf 9 = 1 := by kernel_rfl
def shapesL : List (List UInt8) := [[], [114, 45, 119], [114, 114, 114], [114, 114, 114], [114, 114, 114], [114, 114, 114], [114, 114, 114], [114, 114, 114], [114, 114, 45], [114, 114, 45], [45, 45, 112], [114, 45, 112], [45, 45, 112], [45, 45, 45], [114, 45, 45], [45, 45, 45]]
theorem tab_of_laid {W : World} (h : laidMet Tryd.prog [("curfew/code.shapes", Rows.laid_curfew_code_shapes)] W) : Tab W := by
 have hc : ∀ k : Nat, k < 16 → W.cell? ⟨1, k, none⟩ = some (.string (shp k)) := fun k hk => by
  have hz : shapesL[k]? = some (shp k).data.toList := by
   have : k = 0 ∨ k = 1 ∨ k = 2 ∨ k = 3 ∨ k = 4 ∨ k = 5 ∨ k = 6 ∨ k = 7 ∨ k = 8 ∨ k = 9 ∨ k = 10 ∨ k = 11 ∨ k = 12 ∨ k = 13 ∨ k = 14 ∨ k = 15 := by omega
   rcases this with h | h | h | h | h | h | h | h | h | h | h | h | h | h | h | h <;> subst h <;> rfl
  exact strs_of_head g_shapes g_shapesType Tryd.underlying120 Tryd.underlying9 cells_string cells_shapes (zs := shapesL) h k _ hz
 exact ⟨World.block_lt_of_cell? W _ (hc 0 (by omega)), hc⟩
noncomputable def laidWorld (os : Os) : World :=
 { World.holding Tryd.prog os ⟨#[], #[], []⟩ with heap := (World.holding Tryd.prog os ⟨#[], #[], []⟩).heap.modify 1 fun
   | .cells _ t frozen => .cells (shapesL.map fun z => Value.string ⟨z.toArray⟩).toArray t frozen
   | o => o }
end Go.Proofs.YtdjamdbamkhblacDoor
namespace Go.Proofs.YtdjamdbamkhblacDoor
structure Mc where
 pos : Nat
 back : List Nat
 regs : List Nat
 told : List Nat
 mem : List Nat
def rg (s : Mc) (i : Int) : Nat := s.regs.getD i.toNat 0
def reck (x y op c : Nat) : Nat :=
 if op = 2 then (x + y) % 65536 else if op = 3 then (x + 65536 - y) % 65536 else if op = 4 then x &&& y else if op = 5 then x ||| y else if op = 6 then x ^^^ y
 else if op = 7 then (if x < y then 1 else 0) else c
def step (l : List Ins) (s : Mc) : Mc × Nat :=
 match l[s.pos]? with
 | none => (s, 3)
 | some i =>
   if i.op = 8 then (if rg s i.b < s.mem.length then ({ s with pos := s.pos + 1, regs := s.regs.set i.a.toNat (s.mem.getD (rg s i.b) 0) }, 0) else ({ s with pos := s.pos + 1 }, 3))
   else if i.op = 9 then (if rg s i.b < s.mem.length then ({ s with pos := s.pos + 1, mem := s.mem.set (rg s i.b) (rg s i.a) }, 0) else ({ s with pos := s.pos + 1 }, 3))
   else if i.op = 10 then ({ s with pos := i.c.toNat }, 0)
   else if i.op = 11 then ({ s with pos := if rg s i.a = 0 then i.c.toNat else s.pos + 1 }, 0)
   else if i.op = 12 then (if s.back.length = 16 then ({ s with pos := s.pos + 1 }, 4) else ({ s with pos := i.c.toNat, back := s.back ++ [s.pos + 1] }, 0))
   else if i.op = 13 then (if s.back.length = 0 then ({ s with pos := s.pos + 1 }, 1) else ({ s with pos := s.back.getD (s.back.length - 1) 0, back := s.back.take (s.back.length - 1) }, 0))
   else if i.op = 14 then (if s.told.length = 100 then ({ s with pos := s.pos + 1 }, 5) else ({ s with pos := s.pos + 1, told := s.told ++ [rg s i.a] }, 0))
   else if i.op = 15 then ({ s with pos := s.pos + 1 }, 1)
   else ({ s with pos := s.pos + 1, regs := s.regs.set i.a.toNat (reck (rg s i.b) (rg s (i.c % 8)) i.op.toNat i.c.toNat) }, 0)
def runs (l : List Ins) : Nat → Mc → Mc × Nat
 | 0, s => (s, 2)
 | n + 1, s => if (step l s).2 = 0 then runs l n (step l s).1 else step l s
theorem runs_go {l : List Ins} {n : Nat} {s : Mc} (h : (step l s).2 = 0) : runs l (n + 1) s = runs l n (step l s).1 := by simp [runs, h]
theorem runs_stop {l : List Ins} {n : Nat} {s : Mc} (h : (step l s).2 ≠ 0) : runs l (n + 1) s = step l s := by simp [runs, h]
structure InsOk (i : Ins) : Prop where
 op1 : 1 ≤ i.op
 op2 : i.op ≤ 15
 a0 : 0 ≤ i.a
 a7 : i.a ≤ 7
 b0 : 0 ≤ i.b
 b7 : i.b ≤ 7
 c0 : 0 ≤ i.c
 cw : i.c ≤ 65535
 c7 : 2 ≤ i.op → i.op ≤ 7 → i.c ≤ 7
def CodeOk (l : List Ins) : Prop := ∀ i ∈ l, InsOk i
structure McOk (s : Mc) : Prop where
 regs : s.regs.length = 8
 rw : ∀ x ∈ s.regs, x ≤ 65535
 mw : ∀ x ∈ s.mem, x ≤ 65535
 back : s.back.length ≤ 16
 told : s.told.length ≤ 100
theorem getD_le {l : List Nat} {b : Nat} (h : ∀ x ∈ l, x ≤ b) (k : Nat) : l.getD k 0 ≤ b := by
 rw [List.getD_eq_getElem?_getD]
 cases hk : l[k]? with
 | none => simp
 | some v => exact h v (List.mem_of_getElem? hk)
theorem set_le {l : List Nat} {b : Nat} (h : ∀ x ∈ l, x ≤ b) (k v : Nat) (hv : v ≤ b) : ∀ x ∈ l.set k v, x ≤ b := fun x hx => by
 rcases List.mem_or_eq_of_mem_set hx with h1 | h1
 ·exact h x h1
 ·omega
theorem rg_le {s : Mc} (h : McOk s) (i : Int) : rg s i ≤ 65535 := getD_le h.rw _
theorem reck_le {x y op c : Nat} (hx : x ≤ 65535) (hy : y ≤ 65535) (hc : c ≤ 65535) : reck x y op c ≤ 65535 := by
 unfold reck
 have h1 : x &&& y < 2 ^ 16 := Nat.and_lt_two_pow x (by omega)
 have h2 : x ||| y < 2 ^ 16 := Nat.or_lt_two_pow (by omega) (by omega)
 have h3 : x ^^^ y < 2 ^ 16 := Nat.xor_lt_two_pow (by omega) (by omega)
 repeat' split
 all_goals omega
theorem step_ok {l : List Ins} {s : Mc} (hl : CodeOk l) (h : McOk s) : McOk (step l s).1 := by
 unfold step
 cases hi : l[s.pos]? with
 | none => exact h
 | some i =>
   have hk := hl i (List.mem_of_getElem? hi)
   have hcc : i.c.toNat ≤ 65535 := by have := hk.cw; omega
   have hm := getD_le h.mw (rg s i.b)
   have hra := rg_le h i.a
   have hrk := reck_le (op := i.op.toNat) (rg_le h i.b) (rg_le h (i.c % 8)) hcc
   simp only
   repeat' split
   all_goals first
    | exact ⟨h.regs, h.rw, h.mw, h.back, h.told⟩
    | exact ⟨by simpa using h.regs, set_le h.rw _ _ hm, h.mw, h.back, h.told⟩
    | exact ⟨h.regs, h.rw, set_le h.mw _ _ hra, h.back, h.told⟩
    | exact ⟨by simpa using h.regs, set_le h.rw _ _ hrk, h.mw, h.back, h.told⟩
    | exact ⟨h.regs, h.rw, h.mw, by have := h.back; simp; omega, h.told⟩
    | exact ⟨h.regs, h.rw, h.mw, h.back, by have := h.told; simp; omega⟩
theorem step_mem {l : List Ins} {s : Mc} : (step l s).1.mem.length = s.mem.length := by
 unfold step
 cases l[s.pos]? with
 | none => rfl
 | some i =>
   simp only
   repeat' split
   all_goals simp
theorem runs_mem {l : List Ins} : ∀ (n : Nat) (s : Mc), (runs l n s).1.mem.length = s.mem.length
 | 0, s => rfl
 | n + 1, s => by
   by_cases h : (step l s).2 = 0
   ·rw [runs_go h, runs_mem n, step_mem]
   ·rw [runs_stop h, step_mem]
theorem runs_ok {l : List Ins} (hl : CodeOk l) : ∀ (n : Nat) (s : Mc), McOk s → McOk (runs l n s).1
 | 0, s, h => h
 | n + 1, s, h => by
   by_cases h0 : (step l s).2 = 0
   ·rw [runs_go h0]; exact runs_ok hl n _ (step_ok hl h)
   ·rw [runs_stop h0]; exact step_ok hl h
end Go.Proofs.YtdjamdbamkhblacDoor
namespace Go.Proofs.YtdjamdbamkhblacDoor
open Go.RowKit
end Go.Proofs.YtdjamdbamkhblacDoor
namespace Go.Proofs.YtdjamdbamkhblacDoor
open Go.RowKit
set_option maxRecDepth 100000
def wrB (i : Ins) : Bool := decide (1 ≤ i.op ∧ i.op ≤ 8)
def fstB (i : Ins) : Bool := decide (i.op = 4 ∧ i.a = 4 ∧ i.c = 6)
def sndB (i : Ins) : Bool := decide (i.op = 5 ∧ i.a = 4 ∧ i.b = 4 ∧ i.c = 5)
def endB (i : Ins) : Bool := decide (i.op = 10 ∨ i.op = 13 ∨ i.op = 15)
def jmpB (i : Ins) : Bool := decide (i.op = 10 ∨ i.op = 11 ∨ i.op = 12)
set_option maxHeartbeats 400000 in
theorem writes_any (x y z u : Int) (w : World) :
  Calls Tryd.prog 124 #[.agg #[.int .i64 x, .int .i64 y, .int .i64 z, .int .i64 u]] w fun e w' => e = .returned (.bool (wrB ⟨x, y, z, u⟩)) ∧ w.alloc (.cells #[.int .i64 x, .int .i64 y, .int .i64 z, .int .i64 u] 65) = w' := by
 go_enter Tryd.func124, Tryd.ntmps124
 go_wp2
 all_goals go_ret
 all_goals refine ⟨ret_bool ?_, by simp [*]⟩
 all_goals (simp [wrB]; omega)
set_option maxHeartbeats 400000 in
theorem second_any (x y z u : Int) (w : World) :
  Calls Tryd.prog 125 #[.agg #[.int .i64 x, .int .i64 y, .int .i64 z, .int .i64 u]] w fun e w' => e = .returned (.bool (sndB ⟨x, y, z, u⟩)) ∧ w.alloc (.cells #[.int .i64 x, .int .i64 y, .int .i64 z, .int .i64 u] 65) = w' := by
 have k1 : Tryd.prog.stoodInHeld 65 = false := by kernel_rfl
 have k2 : Tryd.prog.eqGuardType Tryd.prog.depth 65 = false := by kernel_rfl
 go_enter Tryd.func125, Tryd.ntmps125
 go_wp2
 all_goals go_ret
 all_goals refine ⟨ret_bool ?_, by simp [*]⟩
 all_goals (rw [Bool.eq_iff_iff]; simp [sndB]; omega)
set_option maxHeartbeats 400000 in
theorem first_any (x y z u : Int) (w : World) :
  Calls Tryd.prog 126 #[.agg #[.int .i64 x, .int .i64 y, .int .i64 z, .int .i64 u]] w fun e w' => e = .returned (.bool (fstB ⟨x, y, z, u⟩)) ∧ w.alloc (.cells #[.int .i64 x, .int .i64 y, .int .i64 z, .int .i64 u] 65) = w' := by
 go_enter Tryd.func126, Tryd.ntmps126
 go_wp2
 all_goals go_ret
 all_goals refine ⟨ret_bool ?_, by simp [*]⟩
 all_goals (rw [Bool.eq_iff_iff]; simp [fstB]; omega)
set_option maxHeartbeats 400000 in
theorem ends_any (x y z u : Int) (w : World) :
  Calls Tryd.prog 123 #[.agg #[.int .i64 x, .int .i64 y, .int .i64 z, .int .i64 u]] w fun e w' => e = .returned (.bool (endB ⟨x, y, z, u⟩)) ∧ w.alloc (.cells #[.int .i64 x, .int .i64 y, .int .i64 z, .int .i64 u] 65) = w' := by
 go_enter Tryd.func123, Tryd.ntmps123
 go_wp2
 all_goals go_ret
 all_goals refine ⟨ret_bool ?_, by simp [*]⟩
 all_goals (rw [Bool.eq_iff_iff]; simp [endB]; omega)
def badB (n : Nat) (i j : Ins) : Bool :=
 (wrB i && (i.a == 5 || i.a == 6)) || (wrB i && i.a == 4 && !sndB i && !(fstB i && sndB j)) || ((i.op == 8 || i.op == 9) && i.b != 4) || (jmpB i && decide (n ≤ i.c))
def vrf (n : Nat) : List Ins → Int
 | [] => 0
 | i :: r => if badB n i (r.headD default) then 10 else vrf n r
def lastOk (l : List Ins) : Bool := match l.getLast? with | none => false | some i => endB i
def verify (l : List Ins) : Int := if check l = 0 then (if lastOk l then vrf l.length l else 10) else check l
theorem vrf_drop {n : Nat} {l : List Ins} {k : Nat} (h : k < l.length) : vrf n (l.drop k) = if badB n l[k] (l.getD (k + 1) default) then 10 else vrf n (l.drop (k + 1)) := by
 rw [List.drop_eq_getElem_cons h]
 show (if badB n l[k] ((l.drop (k + 1)).headD default) then 10 else _) = _
 rw [List.headD_eq_head?_getD, List.head?_drop, List.getD_eq_getElem?_getD]
theorem chk_op {l : List Ins} (h : chk l = 0) : ∀ k (hk : k < l.length), 1 ≤ l[k].op ∧ l[k].op ≤ 15 := by
 induction l with
 | nil => intro k hk; cases hk
 | cons i r ih =>
   rw [chk] at h
   by_cases h1 : i.op < 1 ∨ 15 < i.op
   ·rw [if_pos h1] at h; cases h
   ·rw [if_neg h1] at h
    by_cases h2 : okI i = true
    ·rw [if_pos h2] at h
     intro k hk
     cases k with
     | zero => simp; omega
     | succ k => exact ih h k (by simpa using hk)
    ·rw [if_neg h2] at h; cases h
end Go.Proofs.YtdjamdbamkhblacDoor
namespace Go.Proofs.YtdjamdbamkhblacDoor
end Go.Proofs.YtdjamdbamkhblacDoor
namespace Go.Proofs.YtdjamdbamkhblacDoor
def ldB (i : Ins) : Bool := i.op == 8 || i.op == 9
def atMap (l : List Ins) (k : Nat) : Nat := k + 2 * (l.take k).countP ldB
def mkI (l : List Ins) (i : Ins) : List Ins :=
 if ldB i then [⟨4, 4, i.b, 6⟩, ⟨5, 4, 4, 5⟩, ⟨i.op, i.a, 4, i.c⟩] else if jmpB i then [⟨i.op, i.a, i.b, (atMap l i.c.toNat : Nat)⟩] else [i]
def madeOf (l : List Ins) : List Ins := l.flatMap (mkI l)
def oddB (x : Int) : Bool := decide (4 ≤ x ∧ x ≤ 6)
def unplainB (n : Nat) (i : Ins) : Bool := oddB i.a || oddB i.b || (decide (2 ≤ i.op ∧ i.op ≤ 7) && oddB i.c) || (jmpB i && decide ((n : Int) ≤ i.c))
structure PlainOk (l : List Ins) : Prop where
 code : CodeOk l
 last : ∀ k (h : k < l.length), k + 1 = l.length → endB l[k] = true
 each : ∀ k (h : k < l.length), unplainB l.length l[k] = false
theorem mkI_length (l : List Ins) (i : Ins) : (mkI l i).length = 1 + 2 * (if ldB i then 1 else 0) := by
 unfold mkI
 cases ldB i with
 | true => rfl
 | false => cases jmpB i <;> rfl
theorem flat_length (l0 : List Ins) : ∀ p : List Ins, (p.flatMap (mkI l0)).length = p.length + 2 * p.countP ldB
 | [] => rfl
 | i :: r => by
   rw [List.flatMap_cons, List.length_append, flat_length l0 r, mkI_length, List.countP_cons, List.length_cons]
   split <;> omega
theorem atMap_flat {l : List Ins} {k : Nat} (h : k ≤ l.length) : ((l.take k).flatMap (mkI l)).length = atMap l k := by
 rw [flat_length, atMap, List.length_take, Nat.min_eq_left h]
theorem atMap_succ {l : List Ins} {k : Nat} (h : k < l.length) : atMap l (k + 1) = atMap l k + 1 + 2 * (if ldB l[k] then 1 else 0) := by
 unfold atMap
 rw [List.take_succ_eq_append_getElem h, List.countP_append, List.countP_cons]
 simp only [List.countP_nil]
 split <;> omega
theorem made_at {l : List Ins} {k : Nat} (h : k < l.length) (j : Nat) (hj : j < (mkI l l[k]).length) : (madeOf l)[atMap l k + j]? = (mkI l l[k])[j]? := by
 have e : madeOf l = (l.take k).flatMap (mkI l) ++ (mkI l l[k] ++ (l.drop (k + 1)).flatMap (mkI l)) := by
  have cut : ∀ f : Ins → List Ins, l.flatMap f = (l.take k).flatMap f ++ (f l[k] ++ (l.drop (k + 1)).flatMap f) := fun f => by
   conv => lhs; rw [← List.take_append_drop k l, List.drop_eq_getElem_cons h, List.flatMap_append, List.flatMap_cons]
  exact cut _
 rw [e, List.getElem?_append_right (by rw [atMap_flat (by omega)]; omega), atMap_flat (by omega), Nat.add_sub_cancel_left, List.getElem?_append_left hj]
theorem unplainB_false {n : Nat} {i : Ins} (h : unplainB n i = false) : ¬ (4 ≤ i.a ∧ i.a ≤ 6) ∧ ¬ (4 ≤ i.b ∧ i.b ≤ 6) ∧ (2 ≤ i.op → i.op ≤ 7 → ¬ (4 ≤ i.c ∧ i.c ≤ 6)) ∧ ((i.op = 10 ∨ i.op = 11 ∨ i.op = 12) → i.c < n) := by
 simp only [unplainB, oddB, jmpB, Bool.or_eq_false_iff, Bool.and_eq_false_iff, decide_eq_false_iff_not] at h
 obtain ⟨⟨⟨h1, h2⟩, h3⟩, h4⟩ := h
 refine ⟨h1, h2, fun a b => ?_, fun a => ?_⟩
 ·rcases h3 with h3 | h3
  ·exact absurd ⟨a, b⟩ h3
  ·exact h3
 ·rcases h4 with h4 | h4
  ·exact absurd a h4
  ·omega
structure Sim (l : List Ins) (s t : Mc) : Prop where
 pos : s.pos < l.length
 tpos : t.pos = atMap l s.pos
 back : ∀ p ∈ s.back, p < l.length
 tback : t.back = s.back.map (atMap l)
 s8 : s.regs.length = 8
 t8 : t.regs.length = 8
 regs : ∀ k, k < 8 → k ≠ 4 → k ≠ 5 → k ≠ 6 → s.regs.getD k 0 = t.regs.getD k 0
 r5 : t.regs.getD 5 0 = 0
 r6 : t.regs.getD 6 0 = 63
 told : s.told = t.told
 mem : s.mem = t.mem
 small : s.mem.length ≤ 64
structure Out (s t : Mc) : Prop where
 s8 : s.regs.length = 8
 t8 : t.regs.length = 8
 regs : ∀ k, k < 4 → s.regs.getD k 0 = t.regs.getD k 0
 told : s.told = t.told
 mem : s.mem = t.mem
theorem Sim.rg {l : List Ins} {s t : Mc} (h : Sim l s t) {z : Int} (h0 : 0 ≤ z) (h7 : z ≤ 7) (ho : ¬ (4 ≤ z ∧ z ≤ 6)) : rg t z = rg s z := by
 unfold YtdjamdbamkhblacDoor.rg
 exact (h.regs z.toNat (by omega) (by omega) (by omega) (by omega)).symm
theorem Sim.out {l : List Ins} {s t : Mc} (h : Sim l s t) : Out s t := ⟨h.s8, h.t8, fun k hk => h.regs k (by omega) (by omega) (by omega) (by omega), h.told, h.mem⟩
end Go.Proofs.YtdjamdbamkhblacDoor
namespace Go.Proofs.YtdjamdbamkhblacDoor
theorem gA_le (op : Int) : gA op ≤ 7 := by unfold gA; split <;> omega
theorem gB_le (op : Int) : gB op ≤ 7 := by unfold gB; split <;> omega
theorem gC_le (op : Int) : gC op ≤ 65535 := by unfold gC; repeat' split
                                               all_goals omega
theorem okI_iff (i : Ins) : okI i = true ↔ (0 ≤ i.a ∧ i.a ≤ gA i.op) ∧ (0 ≤ i.b ∧ i.b ≤ gB i.op) ∧ (0 ≤ i.c ∧ i.c ≤ gC i.op) := by
 simp [okI, and_assoc]
theorem insOk_of {i : Ins} (h1 : 1 ≤ i.op) (h2 : i.op ≤ 15) (h : okI i = true) : InsOk i := by
 obtain ⟨⟨a1, a2⟩, ⟨b1, b2⟩, c1, c2⟩ := (okI_iff i).1 h
 have := gA_le i.op
 have := gB_le i.op
 have := gC_le i.op
 refine ⟨h1, h2, a1, by omega, b1, by omega, c1, by omega, fun h3 h4 => ?_⟩
 unfold gC at c2
 rw [if_neg (by omega), if_pos ⟨h3, h4⟩] at c2
 exact c2
theorem chk_zero_iff (l : List Ins) : chk l = 0 ↔ ∀ i ∈ l, (1 ≤ i.op ∧ i.op ≤ 15) ∧ okI i = true := by
 induction l with
 | nil => simp [chk]
 | cons i r ih =>
   rw [chk]
   by_cases h1 : i.op < 1 ∨ 15 < i.op
   ·rw [if_pos h1]
    refine ⟨fun h => by omega, fun h => ?_⟩
    have := (h i (List.mem_cons_self ..)).1
    omega
   ·rw [if_neg h1]
    by_cases h2 : okI i = true
    ·rw [if_pos h2, ih]
     exact ⟨fun h j hj => by
      rcases List.mem_cons.1 hj with rfl | hj
      ·exact ⟨by omega, h2⟩
      ·exact h j hj, fun h j hj => h j (List.mem_cons_of_mem _ hj)⟩
    ·rw [if_neg h2]
     exact ⟨fun h => by omega, fun h => absurd (h i (List.mem_cons_self ..)).2 h2⟩
theorem check_zero_iff (l : List Ins) : check l = 0 ↔ l.length ≤ 200 ∧ chk l = 0 := by
 unfold check
 split
 ·exact ⟨fun h => by omega, fun h => by omega⟩
 ·exact ⟨fun h => ⟨by omega, h⟩, fun h => h.2⟩
theorem codeOk_of_check {l : List Ins} (h : check l = 0) : CodeOk l := fun i hi => by
 have := (chk_zero_iff l).1 ((check_zero_iff l).1 h).2 i hi
 exact insOk_of this.1.1 this.1.2 this.2
end Go.Proofs.YtdjamdbamkhblacDoor
