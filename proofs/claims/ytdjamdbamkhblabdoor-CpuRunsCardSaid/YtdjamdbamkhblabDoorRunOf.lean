/- The walk of the reference's RunOf: what it returns, for every code, registers, words and fuel. No condition. -/
import Derived.Test.YtdjamdbamkhblabDoorRunOfG
import Derived.Test.YtdjamdbamkhblabDoorRunOfE
namespace Go.Proofs.YtdjamdbamkhblabDoor
open Go.RowKit
set_option linter.unusedVariables false
set_option linter.unusedSimpArgs false
theorem RunOf_any (A Am : Option Addr) (c cm : Nat) (l : List Ins) (r0 r1 r2 r3 r4 r5 r6 r7 : Int) (mem : List Int) (fuel : Int) (w : World) (hr : RdI w w.heap.size A l) (hl : l.length ≤ maxLen)
    (hm : RdN w w.heap.size Am mem) (hml : mem.length ≤ maxLen) :
    Calls Tryd.prog 30 #[.slice A l.length c, .agg #[.int .i64 r0, .int .i64 r1, .int .i64 r2, .int .i64 r3, .int .i64 r4, .int .i64 r5, .int .i64 r6, .int .i64 r7], .slice Am mem.length cm, .int .i64 fuel] w
      (RunPost w (runRes l [r0, r1, r2, r3, r4, r5, r6, r7] mem fuel) (runErr l [r0, r1, r2, r3, r4, r5, r6, r7] mem fuel)) := by
  by_cases h : runErr l [r0, r1, r2, r3, r4, r5, r6, r7] mem fuel = 0
  · have h0 := h
    unfold runErr at h
    by_cases hc : check l = 0
    · rw [if_pos hc] at h
      by_cases hb : 1024 < mem.length
      · rw [if_pos hb] at h; cases h
      · rw [if_neg hb] at h
        by_cases hf : fuel < 0 ∨ 20000 < fuel ∨ ([r0, r1, r2, r3, r4, r5, r6, r7] ++ mem).any oddW = true
        · rw [if_pos hf] at h; cases h
        · have hodd : ([r0, r1, r2, r3, r4, r5, r6, r7] ++ mem).any oddW = false := by
            rw [← Bool.not_eq_true]; exact fun e => hf (.inr (.inr e))
          rw [List.any_append, Bool.or_eq_false_iff] at hodd
          exact RunOf_good A Am c cm l r0 r1 r2 r3 r4 r5 r6 r7 mem fuel w hr hl hm hml hc (by omega) (by omega) (by omega) hodd.1 hodd.2
    · rw [if_neg hc] at h; exact absurd h hc
  · exact RunOf_bad A Am c cm l r0 r1 r2 r3 r4 r5 r6 r7 mem fuel w hr hl hm hml h
end Go.Proofs.YtdjamdbamkhblabDoor
