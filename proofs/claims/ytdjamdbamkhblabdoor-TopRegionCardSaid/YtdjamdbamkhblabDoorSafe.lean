/- The walks of safe.Verify and of its reference: what they return, for every code. -/
import Derived.Test.YtdjamdbamkhblabDoorCodeRef
namespace Go.Proofs.YtdjamdbamkhblabDoor
open Go.RowKit
set_option maxRecDepth 100000

def wrB (i : Ins) : Bool := decide (1 ≤ i.op ∧ i.op ≤ 8)
def fstB (i : Ins) : Bool := decide (i.op = 4 ∧ i.a = 4 ∧ i.c = 6)
def sndB (i : Ins) : Bool := decide (i.op = 5 ∧ i.a = 4 ∧ i.b = 4 ∧ i.c = 5)
def endB (i : Ins) : Bool := decide (i.op = 10 ∨ i.op = 13 ∨ i.op = 15)
def jmpB (i : Ins) : Bool := decide (i.op = 10 ∨ i.op = 11 ∨ i.op = 12)

set_option maxHeartbeats 400000 in
theorem writes_any (x y z u : Int) (w : World) :
    Calls Tryd.prog 46 #[.agg #[.int .i64 x, .int .i64 y, .int .i64 z, .int .i64 u]] w fun e w' => e = .returned (.bool (wrB ⟨x, y, z, u⟩)) ∧ w.alloc (.cells #[.int .i64 x, .int .i64 y, .int .i64 z, .int .i64 u] 45) = w' := by
  go_enter Tryd.func46, Tryd.ntmps46
  go_wp2
  all_goals go_ret
  all_goals refine ⟨ret_bool ?_, by simp [*]⟩
  all_goals (simp [wrB]; omega)
set_option maxHeartbeats 400000 in
theorem second_any (x y z u : Int) (w : World) :
    Calls Tryd.prog 47 #[.agg #[.int .i64 x, .int .i64 y, .int .i64 z, .int .i64 u]] w fun e w' => e = .returned (.bool (sndB ⟨x, y, z, u⟩)) ∧ w.alloc (.cells #[.int .i64 x, .int .i64 y, .int .i64 z, .int .i64 u] 45) = w' := by
  have k1 : Tryd.prog.stoodInHeld 45 = false := by kernel_rfl
  have k2 : Tryd.prog.eqGuardType Tryd.prog.depth 45 = false := by kernel_rfl
  go_enter Tryd.func47, Tryd.ntmps47
  go_wp2
  all_goals go_ret
  all_goals refine ⟨ret_bool ?_, by simp [*]⟩
  all_goals (rw [Bool.eq_iff_iff]; simp [sndB]; omega)
set_option maxHeartbeats 400000 in
theorem first_any (x y z u : Int) (w : World) :
    Calls Tryd.prog 48 #[.agg #[.int .i64 x, .int .i64 y, .int .i64 z, .int .i64 u]] w fun e w' => e = .returned (.bool (fstB ⟨x, y, z, u⟩)) ∧ w.alloc (.cells #[.int .i64 x, .int .i64 y, .int .i64 z, .int .i64 u] 45) = w' := by
  go_enter Tryd.func48, Tryd.ntmps48
  go_wp2
  all_goals go_ret
  all_goals refine ⟨ret_bool ?_, by simp [*]⟩
  all_goals (rw [Bool.eq_iff_iff]; simp [fstB]; omega)
set_option maxHeartbeats 400000 in
theorem ends_any (x y z u : Int) (w : World) :
    Calls Tryd.prog 45 #[.agg #[.int .i64 x, .int .i64 y, .int .i64 z, .int .i64 u]] w fun e w' => e = .returned (.bool (endB ⟨x, y, z, u⟩)) ∧ w.alloc (.cells #[.int .i64 x, .int .i64 y, .int .i64 z, .int .i64 u] 45) = w' := by
  go_enter Tryd.func45, Tryd.ntmps45
  go_wp2
  all_goals go_ret
  all_goals refine ⟨ret_bool ?_, by simp [*]⟩
  all_goals (rw [Bool.eq_iff_iff]; simp [endB]; omega)
set_option maxHeartbeats 400000 in
theorem stops_any (x y z u : Int) (w : World) :
    Calls Tryd.prog 105 #[.agg #[.int .i64 x, .int .i64 y, .int .i64 z, .int .i64 u]] w fun e w' => e = .returned (.bool (endB ⟨x, y, z, u⟩)) ∧ w.alloc (.cells #[.int .i64 x, .int .i64 y, .int .i64 z, .int .i64 u] 45) = w' := by
  go_enter Tryd.func105, Tryd.ntmps105
  go_wp2
  all_goals go_ret
  all_goals refine ⟨ret_bool ?_, by simp [*]⟩
  all_goals (rw [Bool.eq_iff_iff]; simp [endB]; omega)
set_option maxHeartbeats 400000 in
theorem jumps_any (x y z u : Int) (w : World) :
    Calls Tryd.prog 107 #[.agg #[.int .i64 x, .int .i64 y, .int .i64 z, .int .i64 u]] w fun e w' => e = .returned (.bool (jmpB ⟨x, y, z, u⟩)) ∧ w.alloc (.cells #[.int .i64 x, .int .i64 y, .int .i64 z, .int .i64 u] 45) = w' := by
  go_enter Tryd.func107, Tryd.ntmps107
  go_wp2
  all_goals go_ret
  all_goals refine ⟨ret_bool ?_, by simp [*]⟩
  all_goals (rw [Bool.eq_iff_iff]; simp [jmpB]; omega)
set_option maxHeartbeats 400000 in
theorem orBase_any (x y z u : Int) (w : World) :
    Calls Tryd.prog 106 #[.agg #[.int .i64 x, .int .i64 y, .int .i64 z, .int .i64 u]] w fun e w' => e = .returned (.bool (sndB ⟨x, y, z, u⟩)) ∧ w.alloc (.cells #[.int .i64 x, .int .i64 y, .int .i64 z, .int .i64 u] 45) = w' := by
  go_enter Tryd.func106, Tryd.ntmps106
  go_wp2
  all_goals go_ret
  all_goals refine ⟨ret_bool ?_, by simp [*]⟩
  all_goals (rw [Bool.eq_iff_iff]; simp [sndB]; omega)

/-- Is a line (the next one is j) such that code with it can't be trusted? -/
def badB (n : Nat) (i j : Ins) : Bool :=
  (wrB i && (i.a == 5 || i.a == 6)) || (wrB i && i.a == 4 && !sndB i && !(fstB i && sndB j)) || ((i.op == 8 || i.op == 9) && i.b != 4) || (jmpB i && decide (n ≤ i.c))
def vrf (n : Nat) : List Ins → Int
  | [] => 0
  | i :: r => if badB n i (r.headD default) then 10 else vrf n r
def lastOk (l : List Ins) : Bool := match l.getLast? with | none => false | some i => endB i
def verify (l : List Ins) : Int := if check l = 0 then (if lastOk l then vrf l.length l else 10) else check l
theorem vrf_drop {n : Nat} {l : List Ins} {k : Nat} (h : k < l.length) : vrf n (l.drop k) = if badB n l[k] (l.getD (k + 1) default) then 10 else vrf n (l.drop (k + 1)) := by
  rw [List.drop_eq_getElem_cons h]
  show (if badB n l[k] ((l.drop (k + 1)).headD default) then 10 else _) = _
  rw [List.headD_eq_head?_getD, List.head?_drop, List.getD_eq_getElem?_getD]

theorem chk_op {l : List Ins} (h : chk l = 0) : ∀ k (hk : k < l.length), 1 ≤ l[k].op ∧ l[k].op ≤ 15 := by
  induction l with
  | nil => intro k hk; cases hk
  | cons i r ih =>
    rw [chk] at h
    by_cases h1 : i.op < 1 ∨ 15 < i.op
    · rw [if_pos h1] at h; cases h
    · rw [if_neg h1] at h
      by_cases h2 : okI i = true
      · rw [if_pos h2] at h
        intro k hk
        cases k with
        | zero => simp; omega
        | succ k => exact ih h k (by simpa using hk)
      · rw [if_neg h2] at h; cases h

end Go.Proofs.YtdjamdbamkhblabDoor
