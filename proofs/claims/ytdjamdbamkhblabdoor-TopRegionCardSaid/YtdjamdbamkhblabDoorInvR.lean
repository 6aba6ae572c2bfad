/- Small words for the use of wp_region_inv: no condition. -/
import Derived.Test.YtdjamdbamkhblabDoorInv
import Derived.Test.YtdjamdbamkhblabDoorRd
import Derived.Test.YtdjamdbamkhblabDoorBlk
namespace Go.Proofs.YtdjamdbamkhblabDoor
open Go.RowKit
theorem waitsR {l : Array Bool} {j : Nat} (h : l[j]?.getD false = true) : l.getD j true = true := by
  rw [Array.getD_eq_getD_getElem?]
  cases hj : l[j]? with
  | none => rfl
  | some b => rw [hj] at h; exact h
theorem upeqR {l : Array Bool} {i j : Nat} (h : i ≠ j) : (l.setIfInBounds i true).getD j true = l.getD j true := by rw [listed_set]; simp [h]
theorem upneR {l : Array Bool} {i j : Nat} (h : i ≠ j) (x : (l.setIfInBounds i true).getD j true = true) : l.getD j true = true := by rw [upeqR h] at x; exact x
theorem upselfR {l : Array Bool} {i : Nat} : (l.setIfInBounds i true).getD i true = true := by rw [listed_set]; simp
section
variable {P : Program} (w : World)
theorem step_append_rdR {ops : Array Oper} {o : Oper} {a : Act} {K : Act → World → Prop} {Q : Exit → Act → World → Prop} {E : Prop} (hgd : o.guard = none) (s x : Operand) (t : TypeId)
    (ho : o.op = .call { callee := .builtin .append, args := #[s, x], argTypes := #[t, t] })
    (base : Nat) (e : TypeId) (i : TypeInfo) (z : Value) (size bytes : Nat) (ht : P.underlying t = some (.slice e)) (hi : P.info? e = some i) (hz : i.zero = some z)
    (hsize : i.size = size) (hby : i.bytes = bytes) (hzs : z.cells.size = size) (hsz : 0 < size)
    (v : Value) (n : Nat) (xs : List Value) (hs : a.eval s = v) (hown : w.ownsRow base e size v n xs)
    (B : Nat) (A : Option Addr) (m c : Nat) (news : List Value) (hx : a.eval x = .slice A m c) (hr : Rd w B size A m news) (h1 : ∀ u ∈ news, u.oneCell' = true)
    (h63 : n + m ≤ maxLen) (hbytes : (n + m) * bytes ≤ 140737488355328) (hbase : base ≤ w.heap.size)
    (h : ∀ A' c' w', w'.ownsRow base e size (.slice A' (n + m) c') (n + m) (xs ++ news) → w.grownBy w' v.ownBlock → ((Value.slice A' (n + m) c').ownBlock = v.ownBlock ∨ (Value.slice A' (n + m) c').ownBlock = some w.heap.size) → K (a.put o.dst (.slice A' (n + m) c')) w') :
    if Region.wanted o (yielded ops a.tmps) = true then Oper.wp P o a w K Q else E := by
  have hw : Region.wanted o (yielded ops a.tmps) = true := by simp [Region.wanted, hgd]
  rw [if_pos hw]
  obtain ⟨v', w', hrun, h2, h3, h4⟩ := run_append_rd (P := P) w base t o.type e i z size bytes ht hi hz hsize hby hzs hsz v n xs hown B A m c news hr h1 h63 hbytes hbase
  obtain ⟨A', c', rfl⟩ := own_slice h2
  unfold Oper.wp execOp
  simp only [ho, resolve, invoke, builtin, Sem.run_bind, Sem.run_pure, Result.andThen_ok, List.map_toArray, List.map_cons, List.map_nil, hs, hx, hrun]
  exact h A' c' w' h2 h3 h4
end
/-- The region of that number. -/
def regAt (id : Nat) : Code → Option Code
  | .region i ops d => if i = id then some (.region i ops d) else none
  | .seq a b => match regAt id a with
    | some c => some c
    | none => regAt id b
  | .loop c => regAt id c
  | .block _ c => regAt id c
  | .scope c => regAt id c
  | .cond _ a b => match regAt id a with
    | some c => some c
    | none => regAt id b
  | _ => none
end Go.Proofs.YtdjamdbamkhblabDoor
