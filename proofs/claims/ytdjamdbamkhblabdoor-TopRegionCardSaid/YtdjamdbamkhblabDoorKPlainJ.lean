/- A round of K.Plain's loop: joined. No condition. -/
import Derived.Test.YtdjamdbamkhblabDoorKPlainU
namespace Go.Proofs.YtdjamdbamkhblabDoor
open Go.RowKit
set_option linter.unusedVariables false
set_option linter.unusedSimpArgs false
set_option maxRecDepth 1000000 in
theorem pc_go (w0 wr : World) (c n k : Nat) (A : Option Addr) (l : List Ins) (V : Value) (u : Nat → Value) (Q0 : Exit → Act → World → Prop) (hk : k < n) (hn : n ≤ l.length) (hn30 : n ≤ 30) (hr : RdI w0 w0.heap.size A l) (hwf : ∀ i ∈ l, i.wf)
    (hB : Below w0.heap.size w0 wr) (hV : wr.ownsRow w0.heap.size 45 4 V k (insCells (plainTo l n k))) :
    Code.wp Tryd.prog pbody (Exit.then (fun a' w'' => PWI w0 c n A l a' w'' ∧ pmu n a' w'' < n - k) Q0) ⟨#[.slice A l.length c, u 1, u 2, .int .i64 (n : Int), V, u 5, u 6, u 7, u 8, u 9, u 10, .int .i64 (n : Int), .int .i64 (k : Int), u 13, u 14, u 15, u 16, u 17, u 18, u 19, u 20, u 21, u 22, u 23, u 24, u 25, u 26, u 27, u 28, u 29, u 30, u 31, u 32, u 33, u 34, u 35, u 36, u 37, u 38, u 39, u 40, u 41, u 42, u 43, u 44, u 45, u 46, u 47, u 48, u 49, u 50, u 51, u 52, u 53, u 54, u 55, u 56, u 57, u 58, u 59, u 60, u 61, u 62, u 63, u 64, u 65, u 66, u 67, u 68, u 69, u 70, u 71, u 72, u 73, u 74, u 75, u 76, u 77, u 78, u 79, u 80, u 81, u 82, u 83, u 84, u 85, u 86, u 87, u 88, u 89, u 90, u 91, u 92, u 93, u 94, u 95, u 96, u 97, u 98, u 99, u 100, u 101, u 102, u 103, u 104, u 105, u 106, u 107, u 108, u 109, u 110, u 111, u 112, u 113, u 114, u 115, u 116, u 117, u 118], []⟩ wr := by
  have h := pkOf_lt l k
  have h5 : pkOf l k = 0 ∨ pkOf l k = 1 ∨ pkOf l k = 2 ∨ pkOf l k = 3 ∨ pkOf l k = 4 ∨ pkOf l k = 5 ∨ pkOf l k = 6 ∨ pkOf l k = 7 ∨ pkOf l k = 8 ∨ pkOf l k = 10 ∨ pkOf l k = 13 ∨ pkOf l k = 9 ∨ pkOf l k = 11 ∨ pkOf l k = 12 := by omega
  exact pc_goU w0 wr c n k A l V u Q0 h5 hk hn hn30 hr hwf hB hV
set_option maxRecDepth 1000000 in
theorem proundany (w0 : World) (c n : Nat) (A : Option Addr) (l : List Ins) (Q0 : Exit → Act → World → Prop) (hn : n ≤ l.length) (hn30 : n ≤ 30) (hr : RdI w0 w0.heap.size A l) (hwf : ∀ i ∈ l, i.wf) (hQ : ∀ a w', PWX w0 c n A l a w' → Q0 (.exit 0) a w') (a : Act) (wr : World) (hI : PWI w0 c n A l a wr) :
    Code.wp Tryd.prog pbody (Exit.then (fun a' w'' => PWI w0 c n A l a' w'' ∧ pmu n a' w'' < pmu n a wr) Q0) a wr := by
  obtain ⟨h0, h1, h2, h3, h4, k, V, h5, h6, hk, hV, hB⟩ := hI
  obtain ⟨t, d⟩ := a
  simp only at h0 h1 h2 h3 h4 h5 h6
  subst h0
  have hmu : pmu n ⟨t, []⟩ wr = n - k := by
    unfold pmu
    simp only
    rw [h5]
    simp
  rw [hmu]
  obtain ⟨u, rfl⟩ := arr_litP t h1
  have e0 : u 0 = .slice A l.length c := Option.some.inj h2
  have e3 : u 3 = .int .i64 (n : Int) := Option.some.inj h3
  have e11 : u 11 = .int .i64 (n : Int) := Option.some.inj h4
  have e12 : u 12 = .int .i64 (k : Int) := Option.some.inj h5
  have e4 : u 4 = V := Option.some.inj h6
  rw [e0, e3, e11, e12, e4]
  rcases Nat.lt_or_ge k n with h | h
  · exact pc_go w0 wr c n k A l V u Q0 h hn hn30 hr hwf hB hV
  · exact pc_end w0 wr c n k A l V u Q0 (by omega) hB hV hQ
theorem ploop (w0 : World) (c n : Nat) (A : Option Addr) (l : List Ins) (Q0 : Exit → Act → World → Prop) (hn : n ≤ l.length) (hn30 : n ≤ 30) (hr : RdI w0 w0.heap.size A l) (hwf : ∀ i ∈ l, i.wf) (hQ : ∀ a w', PWX w0 c n A l a w' → Q0 (.exit 0) a w') (a : Act) (wr : World) (hI : PWI w0 c n A l a wr) :
    Code.wp Tryd.prog (Code.loop pbody) Q0 a wr :=
  wp_loop (PWI w0 c n A l) (pmu n) hI fun a' w' h => proundany w0 c n A l Q0 hn hn30 hr hwf hQ a' w' h
end Go.Proofs.YtdjamdbamkhblabDoor
