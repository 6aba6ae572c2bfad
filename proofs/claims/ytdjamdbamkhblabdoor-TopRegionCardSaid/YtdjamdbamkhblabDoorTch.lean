/- What a step may touch: only blocks of one element type, and new ones: no condition. -/
import Derived.Test.YtdjamdbamkhblabDoorBlk
namespace Go.Proofs.YtdjamdbamkhblabDoor
open Go.RowKit

/-- w' is w but for new blocks and for blocks of element type t. -/
structure Tch (t : TypeId) (w w' : World) : Prop where
  os : w'.os = w.os
  tape : w'.tape = w.tape
  output : w'.output = w.output
  size : w.heap.size ≤ w'.heap.size
  block : ∀ q, q < w.heap.size → (∀ cs fr, w.heap[q]? ≠ some (.cells cs t fr)) → w'.heap[q]? = w.heap[q]?
theorem Tch.of_below {t : TypeId} {w w' : World} (h : Below w.heap.size w w') : Tch t w w' := ⟨h.os, h.tape, h.output, h.size, fun q hq _ => h.block q hq⟩
theorem Tch.of_grown {t : TypeId} {w w' : World} {base size n : Nat} {v : Value} {xs : List Value} (h : w.ownsRow base t size v n xs) (hg : w.grownBy w' v.ownBlock) : Tch t w w' :=
  ⟨hg.os, hg.tape, hg.output, hg.size, fun q hq hne => hg.block q hq fun e => by
    rcases h.2 with ⟨rfl, _⟩ | ⟨g', cap, cur, rfl, _, hh, _⟩
    · cases e
    · have : q = g' := by simpa [Value.ownBlock] using e
      subst this
      exact hne _ _ hh⟩
theorem Tch.of_set {t : TypeId} {w : World} {p : Addr} {cs : Array Value} (h : Blk w p.block t cs) (u : Value) : Tch t w (w.setCell p u) :=
  ⟨rfl, rfl, rfl, by simp, fun q _ hne => Below.heap_setCell w p u q fun e => by subst e; exact hne _ _ h⟩
theorem Tch.of_none {t : TypeId} {w w' : World} (h : w.grownBy w' none) : Tch t w w' := ⟨h.os, h.tape, h.output, h.size, fun q hq _ => h.block q hq (by simp)⟩
theorem Blk.tch {w w' : World} {g : Nat} {t e : TypeId} {cs : Array Value} (h : Blk w g e cs) (ht : Tch t w w') (hne : e ≠ t) : Blk w' g e cs :=
  (ht.block g h.lt fun cs' fr hc => by
    unfold Blk at h
    rw [h] at hc
    injection hc with hc
    injection hc with _ hc
    exact hne hc).trans h
theorem own_tch {w w' : World} {t e : TypeId} {base size n : Nat} {v : Value} {xs : List Value} (h : w.ownsRow base e size v n xs) (ht : Tch t w w') (hne : e ≠ t) : w'.ownsRow base e size v n xs := by
  refine ⟨h.1, ?_⟩
  rcases h.2 with h2 | ⟨g, cap, cur, hv, hb, hg, r⟩
  · exact .inl h2
  · exact .inr ⟨g, cap, cur, hv, hb, Blk.tch (cs := cur) hg ht hne, r⟩
theorem own_ne {w : World} {t e : TypeId} {base base' size size' n n' : Nat} {v u : Value} {xs ys : List Value} (h : w.ownsRow base e size v n xs) (h' : w.ownsRow base' t size' u n' ys) (hne : e ≠ t) : v.ownBlock = none ∨ v.ownBlock ≠ u.ownBlock := by
  rcases h.2 with ⟨rfl, _⟩ | ⟨g, cap, cur, rfl, _, hh, _⟩
  · exact .inl rfl
  · right
    have := own_blk_ne h' (g := g) (cs := cur) hh (Ne.symm hne)
    intro e
    exact this (e.symm.trans rfl)
end Go.Proofs.YtdjamdbamkhblabDoor
