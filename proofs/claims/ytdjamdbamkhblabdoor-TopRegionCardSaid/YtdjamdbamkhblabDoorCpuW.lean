/- The machine in memory, and the walks of its small functions: no condition. -/
import Derived.Test.YtdjamdbamkhblabDoorCpuPure
import Derived.Test.YtdjamdbamkhblabDoorTch
import Derived.Test.YtdjamdbamkhblabDoorWords
import Derived.Test.YtdjamdbamkhblabDoorIdxInt
namespace Go.Proofs.YtdjamdbamkhblabDoor
open Go.RowKit

theorem i64_and65535 (n : Int) : bits .and .i64 n 65535 = n % 65536 := by
  have hm : (BitVec.ofInt 64 65535).toNat = 2 ^ 16 - 1 := by decide
  have key : (BitVec.ofInt 64 n &&& BitVec.ofInt 64 65535).toNat = (n % ((2 ^ 64 : Nat) : Int)).toNat % 2 ^ 16 := by
    rw [BitVec.toNat_and, BitVec.toNat_ofInt, hm, Nat.and_two_pow_sub_one_eq_mod]
  show IntKind.i64.wrap ((BitVec.ofInt 64 n &&& BitVec.ofInt 64 65535).toNat : Nat) = n % 65536
  rw [key, IntKind.wrap_i64]
  omega
theorem i64_and_word (a b : Nat) (ha : a ≤ 65535) (hb : b ≤ 65535) : bits .and .i64 (a : Int) (b : Int) = ((a &&& b : Nat) : Int) := by
  have hx : a &&& b < 2 ^ 16 := Nat.and_lt_two_pow _ (by omega)
  show IntKind.i64.wrap ((BitVec.ofInt 64 (a : Int) &&& BitVec.ofInt 64 (b : Int)).toNat : Int) = _
  rw [BitVec.toNat_and, ofInt_u64 a (by omega), ofInt_u64 b (by omega), IntKind.wrap_i64]
  omega
theorem i64_or_word (a b : Nat) (ha : a ≤ 65535) (hb : b ≤ 65535) : bits .or .i64 (a : Int) (b : Int) = ((a ||| b : Nat) : Int) := by
  have hx : a ||| b < 2 ^ 16 := Nat.or_lt_two_pow (by omega) (by omega)
  show IntKind.i64.wrap ((BitVec.ofInt 64 (a : Int) ||| BitVec.ofInt 64 (b : Int)).toNat : Int) = _
  rw [BitVec.toNat_or, ofInt_u64 a (by omega), ofInt_u64 b (by omega), IntKind.wrap_i64]
  omega
theorem i64_xor_word (a b : Nat) (ha : a ≤ 65535) (hb : b ≤ 65535) : bits .xor .i64 (a : Int) (b : Int) = ((a ^^^ b : Nat) : Int) := by
  have hx : a ^^^ b < 2 ^ 16 := Nat.xor_lt_two_pow (by omega) (by omega)
  show IntKind.i64.wrap ((BitVec.ofInt 64 (a : Int) ^^^ BitVec.ofInt 64 (b : Int)).toNat : Int) = _
  rw [BitVec.toNat_xor, ofInt_u64 a (by omega), ofInt_u64 b (by omega), IntKind.wrap_i64]
  omega

set_option maxHeartbeats 400000 in
theorem word_any (n : Int) (w : World) : Calls Tryd.prog 41 #[.int .i64 n] w fun e w' => e = .returned (.bool (!oddW n)) ∧ w = w' := by
  by_cases h1 : 0 ≤ n
  · go_enter Tryd.func41, Tryd.ntmps41
    go_wp2
    go_ret
    refine ⟨ret_bool ?_, rfl⟩
    rw [Bool.eq_iff_iff]; simp [oddW]; omega
  · have h2 : n < 0 := by omega
    go_enter Tryd.func41, Tryd.ntmps41
    go_wp2
    go_ret
    refine ⟨ret_bool ?_, rfl⟩
    rw [Bool.eq_iff_iff]; simp [oddW]; omega
set_option maxHeartbeats 400000 in
theorem Run1_any (n : Int) (w : World) : Calls Tryd.prog 40 #[.int .i64 n] w fun e w' => e = .returned (.bool (oddW n)) ∧ w = w' := by
  go_enter Tryd.func40, Tryd.ntmps40
  go_wp2_with (go_at_call 41; refine (word_any _ _).mono ?_; rintro e w' ⟨rfl, rfl⟩)
  go_ret
  exact ⟨ret_bool (by simp), rfl⟩
theorem Run1_enter : ∀ args w, (callFunc 40 args).run Tryd.prog w = .ok (.enter 40 args) w := fun args w => by
  simp only [callFunc, run_program, Sem.run_bind, Result.andThen_ok, Tryd.func40]
  rfl
set_option maxHeartbeats 400000 in
theorem truth_any (b : Bool) (w : World) : Calls Tryd.prog 103 #[.bool b] w fun e w' => e = .returned (.int .i64 (if b then 1 else 0)) ∧ w = w' := by
  cases b
  all_goals
    go_enter Tryd.func103, Tryd.ntmps103
    go_wp2
    go_ret
    exact ⟨rfl, rfl⟩

def natV (n : Nat) : Value := .int .i64 (n : Int)
/-- The machine's cells. -/
def mcCells (C : Value) (pos : Nat) (B : Value) (en : Nat) (r : List Nat) (T M : Value) : Array Value :=
  #[C, natV pos, B, natV en, natV (r.getD 0 0), natV (r.getD 1 0), natV (r.getD 2 0), natV (r.getD 3 0), natV (r.getD 4 0), natV (r.getD 5 0), natV (r.getD 6 0), natV (r.getD 7 0), T, M]
theorem mc_reg {C B T M : Value} {pos en : Nat} {r : List Nat} (k : Nat) (hk : k ≤ 7) : (mcCells C pos B en r T M)[4 + k]? = some (natV (r.getD k 0)) := by
  match k, hk with
  | 0, _ => rfl
  | 1, _ => rfl
  | 2, _ => rfl
  | 3, _ => rfl
  | 4, _ => rfl
  | 5, _ => rfl
  | 6, _ => rfl
  | 7, _ => rfl
  | k + 8, h => omega
theorem mc_set {C B T M : Value} {pos en : Nat} {r : List Nat} (hr : r.length = 8) (k : Nat) (hk : k ≤ 7) (v : Nat) : (mcCells C pos B en r T M).setIfInBounds (4 + k) (natV v) = mcCells C pos B en (r.set k v) T M := by
  match r, hr with
  | [a0, a1, a2, a3, a4, a5, a6, a7], _ =>
    match k, hk with
    | 0, _ => rfl
    | 1, _ => rfl
    | 2, _ => rfl
    | 3, _ => rfl
    | 4, _ => rfl
    | 5, _ => rfl
    | 6, _ => rfl
    | 7, _ => rfl
    | k + 8, h => omega

set_option maxHeartbeats 2000000 in
theorem reckon_any (g : Nat) (cs : Array Value) (i : Ins) (x y : Nat) (w : World) (hB : Blk w g 80 cs) (hi : InsOk i) (ho : ¬ (8 ≤ i.op))
    (hx : cs[4 + i.b.toNat]? = some (natV x)) (hy : cs[4 + (i.c % 8).toNat]? = some (natV y)) (hxw : x ≤ 65535) (hyw : y ≤ 65535) :
    Calls Tryd.prog 84 #[.pointer (some ⟨g, 0, none⟩), i.val] w fun e w' => e = .returned (.int .i64 (reck x y i.op.toNat i.c.toNat : Nat)) ∧ Below w.heap.size w w' := by
  obtain ⟨o1, o2, a0, a7, b0, b7, c0, cw, c7⟩ := hi
  obtain ⟨o, a, b, c⟩ := i
  simp only at o1 o2 a0 a7 b0 b7 c0 cw c7 ho hx hy ⊢
  unfold Ins.val
  simp only
  obtain ⟨bn, rfl⟩ : ∃ n : Nat, b = (n : Int) := ⟨b.toNat, by omega⟩
  obtain ⟨cn, rfl⟩ : ∃ n : Nat, c = (n : Int) := ⟨c.toNat, by omega⟩
  have hc8 : ((cn : Int) % 8).toNat = cn % 8 := by omega
  rw [hc8] at hy
  have e1 := (hB.cell (4 + bn)).trans hx
  have e2 := (hB.cell (4 + cn % 8)).trans hy
  have hg := hB.lt
  unfold natV at e1 e2
  have hcm : ((cn : Int) % 8) = ((cn % 8 : Nat) : Int) := by omega
  have hm7 : cn % 8 ≤ 7 := by omega
  have HC := Lib.hid hcm
  clear hcm hc8 hx hy hB
  have hbn : (bn : Int) < 8 := by omega
  have hcn : (cn : Int) % 8 < 8 := by omega
  have hcn0 : 0 ≤ (cn : Int) % 8 := by omega
  have hcr : (cn : Int).tmod 8 = (cn % 8 : Nat) := by rw [Int.tmod_eq_emod_of_nonneg (by omega)]; omega
  go_enter Tryd.func84, Tryd.ntmps84
  go_wp2
  go_quiet (fail)
  go_wp2_with (go_at_call 103; refine (truth_any _ _).mono ?_; rintro e w' ⟨rfl, rfl⟩)
  all_goals go_ret
  all_goals refine ⟨ret_int ?_, Below.drewN' ((Below.refl _ _).alloc (Nat.le_refl _) _) _⟩
  all_goals simp only [beq_iff_eq, beq_eq_false_iff_ne] at *
  · obtain rfl : o = 2 := by assumption
    rw [i64_and65535]
    show _ = (((x + y) % 65536 : Nat) : Int)
    omega
  · obtain rfl : o = 3 := by assumption
    rw [i64_and65535]
    show _ = (((x + 65536 - y) % 65536 : Nat) : Int)
    omega
  all_goals first
    | (obtain rfl : o = 4 := by assumption
       rw [i64_and_word x y hxw hyw]; rfl)
    | (obtain rfl : o = 5 := by assumption
       rw [i64_or_word x y hxw hyw]; rfl)
    | (obtain rfl : o = 6 := by assumption
       rw [i64_xor_word x y hxw hyw]; rfl)
    | (obtain rfl : o = 7 := by assumption
       show _ = (((if x < y then 1 else 0) : Nat) : Int)
       first | (rw [if_pos (by assumption)]; rfl) | (rw [if_neg (by omega)]; rfl))
    | (obtain rfl : o = 1 := by omega
       rfl)
end Go.Proofs.YtdjamdbamkhblabDoor
