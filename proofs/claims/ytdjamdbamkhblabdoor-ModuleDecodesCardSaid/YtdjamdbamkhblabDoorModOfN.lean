/- The walk of the reference decoder's next: one byte more, or it went short. No condition. -/
import Derived.Test.YtdjamdbamkhblabDoorDecodeP
import Derived.Test.YtdjamdbamkhblabDoorInvR
namespace Go.Proofs.YtdjamdbamkhblabDoor
open Go.RowKit
set_option linter.unusedVariables false
set_option linter.unusedSimpArgs false
/-- How far the reader has come. -/
def posOf (t : List UInt8) : Option (List UInt8) → Nat
  | none => t.length
  | some r => t.length - r.length
/-- The reader's three variables. -/
structure NxtAt (w : World) (bt bi bs : Nat) (t : List UInt8) (st : Option (List UInt8)) : Prop where
  tx : Blk w bt 9 #[.string (ba t)]
  ix : Blk w bi 3 #[.int .i64 (posOf t st : Nat)]
  sx : Blk w bs 4 #[.bool st.isNone]
  suf : ∀ r, st = some r → r.length ≤ t.length ∧ r = t.drop (t.length - r.length)
  len : t.length ≤ 4000
/-- What a step of the reader may touch. -/
structure Nx (bi bs : Nat) (w w' : World) : Prop where
  os : w'.os = w.os
  tape : w'.tape = w.tape
  output : w'.output = w.output
  size : w'.heap.size = w.heap.size
  block : ∀ q, q ≠ bi → q ≠ bs → w'.heap[q]? = w.heap[q]?
section
variable {w w' w'' : World} {bt bi bs B : Nat}
theorem Nx.of_i (w : World) (bi bs : Nat) (u : Value) : Nx bi bs w (w.setCell ⟨bi, 0, none⟩ u) := ⟨rfl, rfl, rfl, by simp, fun q h _ => Below.heap_setCell w ⟨bi, 0, none⟩ u q h⟩
theorem Nx.of_s (w : World) (bi bs : Nat) (u : Value) : Nx bi bs w (w.setCell ⟨bs, 0, none⟩ u) := ⟨rfl, rfl, rfl, by simp, fun q _ h => Below.heap_setCell w ⟨bs, 0, none⟩ u q h⟩
theorem Nx.trans (h : Nx bi bs w w') (h' : Nx bi bs w' w'') : Nx bi bs w w'' := ⟨h'.os.trans h.os, h'.tape.trans h.tape, h'.output.trans h.output, h'.size.trans h.size, fun q h1 h2 => (h'.block q h1 h2).trans (h.block q h1 h2)⟩
theorem Nx.below (h : Nx bi bs w w') (h1 : B ≤ bi) (h2 : B ≤ bs) : Below B w w' := ⟨h.os, h.tape, h.output, Nat.le_of_eq h.size.symm, fun q hq => h.block q (by omega) (by omega)⟩
theorem Blk.nx {g : Nat} {t : TypeId} {cs : Array Value} (h : Blk w g t cs) (hn : Nx bi bs w w') (h1 : g ≠ bi) (h2 : g ≠ bs) : Blk w' g t cs := (hn.block g h1 h2).trans h
theorem own_nx {base : Nat} {e : TypeId} {size n : Nat} {v : Value} {xs : List Value} (h : w.ownsRow base e size v n xs) (hn : Nx bi bs w w') (h1 : bi < base) (h2 : bs < base) : w'.ownsRow base e size v n xs := by
  refine ⟨h.1, ?_⟩
  rcases h.2 with h2' | ⟨g, cap, cur, hv, hb, hg, r⟩
  · exact .inl h2'
  · exact .inr ⟨g, cap, cur, hv, hb, (hn.block g (by omega) (by omega)).trans hg, r⟩
end
theorem ba_at (t : List UInt8) (j : Nat) (h : j < (ba t).size) : (ba t)[j] = t[j]'h := rfl
set_option maxHeartbeats 1000000 in
theorem next_any (bt bi bs : Nat) (t : List UInt8) (st : Option (List UInt8)) (w : World) (h : NxtAt w bt bi bs t st) (hd : bt ≠ bi ∧ bt ≠ bs ∧ bi ≠ bs) :
    Calls Tryd.prog 54 #[.pointer (some ⟨bi, 0, none⟩), .pointer (some ⟨bt, 0, none⟩), .pointer (some ⟨bs, 0, none⟩)] w fun e w' => e = .returned (.int .i64 ((numS 1 st).1 : Nat)) ∧ NxtAt w' bt bi bs t (numS 1 st).2 ∧ Nx bi bs w w' := by
  have hs := ba_size t
  have hl := h.len
  have c0 := h.tx.cell 0
  have c1 := h.ix.cell 0
  have c2 := h.sx.cell 0
  have f1 := h.ix.frozen 0
  have f2 := h.sx.frozen 0
  simp at c0 c1 c2
  obtain ⟨d1, d2, d3⟩ := hd
  have H := Lib.hid h
  have hz0 := h.tx.lt
  have hz1 := h.ix.lt
  have hz2 := h.sx.lt
  clear h
  have short : numS 1 st = (0, none) → posOf t st = t.length → Calls Tryd.prog 54 #[.pointer (some ⟨bi, 0, none⟩), .pointer (some ⟨bt, 0, none⟩), .pointer (some ⟨bs, 0, none⟩)] w fun e w' => e = .returned (.int .i64 ((numS 1 st).1 : Nat)) ∧ NxtAt w' bt bi bs t (numS 1 st).2 ∧ Nx bi bs w w' := fun e1 e2 => by
    rw [e2] at c1
    have HE := Lib.hid e1
    have HP := Lib.hid e2
    clear e1 e2
    go_enter Tryd.func54, Tryd.ntmps54
    go_wp2
    go_ret
    rw [HE.out]
    refine ⟨rfl, ⟨H.out.tx.far (p := ⟨bs, 0, none⟩) d2 _, ?_, H.out.sx.set_ 0 _, fun r hr => by simp at hr, hl⟩, Nx.of_s w bi bs _⟩
    have := H.out.ix.far (p := ⟨bs, 0, none⟩) d3 (.bool true)
    rw [HP.out] at this
    exact this
  cases st with
  | none => exact short rfl rfl
  | some r =>
    cases r with
    | nil => exact short rfl (by simp [posOf])
    | cons c r =>
      clear short
      obtain ⟨q1, q2⟩ := H.out.suf _ rfl
      obtain ⟨j, hj⟩ : ∃ j, j = t.length - (r.length + 1) := ⟨_, rfl⟩
      have hlen : (c :: r).length = r.length + 1 := rfl
      rw [hlen] at q1 q2
      have hjl : j < t.length := by omega
      have hpo : posOf t (some (c :: r)) = j := hj.symm
      rw [hpo] at c1
      rw [← hj] at q2
      have hc : t[j] = c ∧ t.drop (j + 1) = r := by
        rw [List.drop_eq_getElem_cons hjl] at q2
        injection q2 with h1 h2
        exact ⟨h1.symm, h2.symm⟩
      have hjs : j < (ba t).size := hjl
      have hx : ((ba t)[j].toNat : Int) ≤ 255 := by have := (ba t)[j].toNat_lt; omega
      have HC := Lib.hid hc
      have HJ := Lib.hid hj
      clear hc q2 hj hpo hlen
      rw [numS1_cons]
      have hjI : (j : Int) < (t.length : Int) := by omega
      go_enter Tryd.func54, Tryd.ntmps54
      go_wp2
      go_ret
      have hpo' : posOf t (some r) = j + 1 := by have := HJ.out; show t.length - r.length = _; omega
      refine ⟨?_, ⟨H.out.tx.far (p := ⟨bi, 0, none⟩) d1 _, ?_, H.out.sx.far (p := ⟨bi, 0, none⟩) (Ne.symm d3) _, fun r' hr => ?_, hl⟩, Nx.of_i w bi bs _⟩
      · rw [← HC.out.1]
        rfl
      · have := H.out.ix.set_ 0 (.int .i64 ((j : Int) + 1))
        rw [hpo']
        exact this
      · cases hr
        refine ⟨by omega, ?_⟩
        rw [show t.length - r.length = j + 1 by have := HJ.out; omega]
        exact HC.out.2.symm
end Go.Proofs.YtdjamdbamkhblabDoor
