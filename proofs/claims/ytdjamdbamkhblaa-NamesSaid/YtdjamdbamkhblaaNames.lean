/- The walk of the law Names: the numbers of package api are those of the specification. -/
import Derived.Test.YtdjamdbamkhblaaBase
namespace Go.Proofs.Ytdjamdbamkhblaa
open Go.RowKit

theorem cells_new (w : World) (n : Nat) (cs : List Value) (t : TypeId) (hn : n = w.heap.size) : ∀ j u, cs[j]? = some u → (w.alloc (.cells cs.toArray t)).cell? ((⟨n, 0, none⟩ : Addr).add j) = some u := by
  intro j u hj
  subst hn
  have : (⟨w.heap.size, 0, none⟩ : Addr).add j = ⟨w.heap.size, j, none⟩ := by unfold Addr.add; split <;> simp_all
  rw [this, World.cell?_alloc_new]
  simpa using hj
theorem own_of_new {w : World} {B g : Nat} {t : TypeId} {cs : List Value} (hB : B ≤ g) (h : w.heap[g]? = some (.cells cs.toArray t (0, 0))) (hl : cs.length ≤ maxLen) : w.ownsRow B t 1 (.slice (some ⟨g, 0, none⟩) cs.length cs.length) cs.length cs :=
  ⟨by simp, .inr ⟨g, cs.length, cs.toArray, rfl, hB, h, Nat.le_refl _, hl, by simp, by simp⟩⟩
def intsV (l : List Int) : List Value := l.map (Value.int .i64)
def L1 : List Int := [65535, 8, 200, 1024, 64, 16, 16, 20000, 100, 6, 4000, 8, 8, 100, 6, 6, 20, 4, 200]
def L2 : List Int := [4, 5, 6, 1, 2, 3, 4, 5, 6, 7, 8, 9, 10, 11, 12, 13, 14, 15]
def L3 : List Int := [1, 2, 3, 4, 5, 1, 2, 0, 1, 2, 3, 1, 2, 3, 4, 5, 6, 7, 8, 9, 10, 11]
theorem int_info : (Try.prog.info? 3).map (fun i => (i.zero, i.size, i.bytes)) = some (some (.int .i64 0), 1, 8) := by kernel_rfl

theorem ne_block {v u : Value} {a b c d : Nat} (hv : v.ownBlock = some a ∨ v.ownBlock = some b) (hu : u.ownBlock = some c ∨ u.ownBlock = some d) (h1 : a ≠ c) (h2 : a ≠ d) (h3 : b ≠ c) (h4 : b ≠ d) : v.ownBlock = none ∨ v.ownBlock ≠ u.ownBlock := by
  right
  rcases hv with e | e <;> rcases hu with f | f <;> rw [e, f] <;> simp [h1, h2, h3, h4]
theorem ne_block3 {v3 v1 v2 : Value} {a b c d e : Nat} (h3 : v3.ownBlock = v1.ownBlock ∨ v3.ownBlock = some e) (h1 : v1.ownBlock = some a ∨ v1.ownBlock = some b) (h2 : v2.ownBlock = some c ∨ v2.ownBlock = some d)
    (x1 : a ≠ c) (x2 : a ≠ d) (x3 : b ≠ c) (x4 : b ≠ d) (x5 : e ≠ c) (x6 : e ≠ d) : v3.ownBlock = none ∨ v3.ownBlock ≠ v2.ownBlock := by
  right
  rcases h3 with g | g
  · rcases h1 with e' | e' <;> rcases h2 with f | f <;> rw [g, e', f] <;> simp [x1, x2, x3, x4]
  · rcases h2 with f | f <;> rw [g, f] <;> simp [x5, x6]
def Lall : List Int := L1 ++ L2 ++ L3
theorem all_at (k : Nat) (hk : k < 59) : (intsV L1 ++ intsV L2 ++ intsV L3)[k]? = some (.int .i64 (Lall.getD k 0)) := by
  have e : intsV L1 ++ intsV L2 ++ intsV L3 = intsV Lall := by simp [intsV, Lall]
  have hl : k < Lall.length := hk
  rw [e, intsV, List.getElem?_map, List.getElem?_eq_getElem hl, List.getD_eq_getElem?_getD, List.getElem?_eq_getElem hl]
  rfl
def Eqs (w : World) (g : Nat) : Prop := ∀ k : Nat, k < 59 → w.cell? ⟨g, k, none⟩ = some (.int .i64 (Lall.getD k 0))

/-- Two rows of the call's own, in blocks of their own, that hold the same numbers. -/
def Two (B : Nat) (w : World) (v u : Value) (n : Nat) (l : List Int) : Prop :=
  w.ownsRow B 3 1 v n (intsV l) ∧ w.ownsRow B 3 1 u n (intsV l) ∧ (∀ k, v.ownBlock = some k → k < w.heap.size) ∧ (∀ k, u.ownBlock = some k → k < w.heap.size) ∧ v.ownBlock ≠ u.ownBlock
def Fst (wr : World) (B g : Nat) (w : World) : Prop := (∀ k : Nat, k < 16 → wr.cell? ⟨g, k, none⟩ = some (.int .i64 k)) ∧ Below B w wr ∧ g < wr.heap.size

set_option maxHeartbeats 1000000 in
theorem Names_any (w : World) :
    Calls Try.prog 3 #[] w fun e w' => e = .returned (.bool true) ∧ Below w.heap.size w w' := by
  obtain ⟨i0, hi0, hz0, hz1, hz2⟩ := info_parts int_info
  go_enter Try.func3, Try.ntmps3
  go_wp2
  go_loopw [2] (fun i wr => Cnt 16 i fun _ => Fst wr w.heap.size w.heap.size w) (fun i _ => 16 - (intOf i).toNat)
  case atStart =>
    refine ⟨0, Nat.zero_le _, rfl, fun k hk => ?_, (Below.refl _ _).alloc (Nat.le_refl _) _, by simp⟩
    have : k = 0 ∨ k = 1 ∨ k = 2 ∨ k = 3 ∨ k = 4 ∨ k = 5 ∨ k = 6 ∨ k = 7 ∨ k = 8 ∨ k = 9 ∨ k = 10 ∨ k = 11 ∨ k = 12 ∨ k = 13 ∨ k = 14 ∨ k = 15 := by omega
    rcases this with h | h | h | h | h | h | h | h | h | h | h | h | h | h | h | h <;> subst h <;> simp
  case round =>
    obtain ⟨k, hk, rfl, hc, hb, hg⟩ := hrel
    by_cases hlt : k < 16
    · have c0 := hc k hlt
      have HC := Lib.hid hc
      clear hc
      go_wp2
      exact ⟨⟨k + 1, by omega, by go_num, HC.out, hb, hg⟩, by simp [intOf]; omega⟩
    · clear hc
      have hbz := hb.size
      have hU := Try.underlying24
      go_wp2_with (first
        | (at_builtin
           refine wpList_append_own_at _ rfl (.tmp 21) (.tmp 22) _ rfl w.heap.size 3 i0 _ 1 8 hU hi0 hz0 hz1 hz2 rfl (by omega) (.slice (some ⟨wr.heap.size, 0, none⟩) 19 19) 19 (intsV L1) rfl ?own1 ⟨wr.heap.size + 1 + 1, 0, none⟩ 18 18 (intsV L2) rfl rfl ?new1 ?one1 ?len1 ?byt1 ?bas1 ?_
           case own1 => (exact ((own_of_new (w := wr.alloc (.cells (intsV L1).toArray 3)) (cs := intsV L1) hbz (heap_alloc_new wr _) (by simp [intsV, L1, maxLen])).alloc (.cells (intsV L1).toArray 3)).alloc (.cells (intsV L2).toArray 3))
           case new1 => (refine cells_new _ _ (intsV L2) _ ?_; simp)
           case one1 => (simp [intsV, L2, Value.oneCell'])
           case len1 => (simp [maxLen])
           case byt1 => (omega)
           case bas1 => (simp; omega)
           intro v1 w1 hv1 hg1 _ ha1
           have hw0 := (own_of_new (w := (wr.alloc (.cells (intsV L1).toArray 3)).alloc (.cells (intsV L1).toArray 3)) (B := w.heap.size) (g := wr.heap.size + 1) (t := 3) (cs := intsV L1) (by omega) (by have := heap_alloc_new (wr.alloc (.cells (intsV L1).toArray 3)) (.cells (intsV L1).toArray 3); simpa using this) (by simp [intsV, L1, maxLen])).alloc (.cells (intsV L2).toArray 3)
           have hw1 := hw0.kept hg1 (.inr (by simp [Value.ownBlock]))
           have z1 := hg1.size
           simp at ha1 z1)
        | (at_builtin
           refine wpList_append_own_at _ rfl (.tmp 24) (.tmp 25) _ rfl w.heap.size 3 i0 _ 1 8 hU hi0 hz0 hz1 hz2 rfl (by omega) (.slice (some ⟨wr.heap.size + 1, 0, none⟩) 19 19) 19 (intsV L1) rfl ?own2 ⟨w1.heap.size, 0, none⟩ 18 18 (intsV L2) rfl rfl ?new2 ?one2 ?len2 ?byt2 ?bas2 ?_
           case own2 => (exact hw1.alloc _)
           case new2 => (refine cells_new _ _ (intsV L2) _ ?_; simp)
           case one2 => (simp [intsV, L2, Value.oneCell'])
           case len2 => (simp [maxLen])
           case byt2 => (omega)
           case bas2 => (simp; omega)
           intro v2 w2 hv2 hg2 _ ha2
           (have hw2 := (hv1.alloc (.cells (intsV L2).toArray 3)).kept hg2 (ne_block ha1 (.inl rfl : _ ∨ (Value.slice (some ⟨wr.heap.size + 1, 0, none⟩) 19 19).ownBlock = some (wr.heap.size + 1)) (by simp) (by simp) (by simp; try omega) (by simp; try omega)))
           have z2 := hg2.size
           (simp at ha2 z2))
        | (at_builtin
           refine wpList_append_own_at _ rfl (.tmp 27) (.tmp 28) _ rfl w.heap.size 3 i0 _ 1 8 hU hi0 hz0 hz1 hz2 rfl (by omega) v1 (19 + 18) (intsV L1 ++ intsV L2) rfl ?own3 ⟨w2.heap.size, 0, none⟩ 22 22 (intsV L3) rfl rfl ?new3 ?one3 ?len3 ?byt3 ?bas3 ?_
           case own3 => (exact hw2.alloc _)
           case new3 => (refine cells_new _ _ (intsV L3) _ ?_; simp)
           case one3 => (simp [intsV, L3, Value.oneCell'])
           case len3 => (simp [maxLen])
           case byt3 => (omega)
           case bas3 => (simp; omega)
           intro v3 w3 hv3 hg3 _ ha3
           (have hw3 := (hv2.alloc (.cells (intsV L3).toArray 3)).kept hg3 (ne_block ha2 ha1 (by simp [Value.ownBlock]) (by simp [Value.ownBlock]) (by simp [Value.ownBlock]; omega) (by simp [Value.ownBlock]; omega)))
           have z3 := hg3.size
           (simp at ha3 z3))
        | (at_builtin
           refine wpList_append_own_at _ rfl (.tmp 30) (.tmp 31) _ rfl w.heap.size 3 i0 _ 1 8 hU hi0 hz0 hz1 hz2 rfl (by omega) v2 (19 + 18) (intsV L1 ++ intsV L2) rfl ?own4 ⟨w3.heap.size, 0, none⟩ 22 22 (intsV L3) rfl rfl ?new4 ?one4 ?len4 ?byt4 ?bas4 ?_
           case own4 => (exact hw3.alloc _)
           case new4 => (refine cells_new _ _ (intsV L3) _ ?_; simp)
           case one4 => (simp [intsV, L3, Value.oneCell'])
           case len4 => (simp [maxLen])
           case byt4 => (omega)
           case bas4 => (simp; omega)
           intro v4 w4 hv4 hg4 _ ha4
           have z4 := hg4.size
           (simp at z4)))
      have hw4 := (hv3.alloc (.cells (intsV L3).toArray 3)).kept hg4 (ne_block3 ha3 ha1 ha2 (by simp) (by simp; try omega) (by simp; try omega) (by simp; try omega) (by simp; try omega) (by simp; try omega))
      have hb4 : Below w.heap.size w w4 := by
        have b1 := hb.trans ((((((Below.refl wr.heap.size wr).alloc (Nat.le_refl _) (.cells (intsV L1).toArray 3)).alloc (by simp) (.cells (intsV L1).toArray 3)).alloc (by simp; omega) (.cells (intsV L2).toArray 3)).grown hg1 (by simp; omega) (by simp [Value.ownBlock])).mono hbz)
        have r1 : ∀ k, v1.ownBlock = some k → w.heap.size ≤ k := fun k hk => (hv1.lt k hk).1
        have r2 : ∀ k, v2.ownBlock = some k → w.heap.size ≤ k := fun k hk => (hv2.lt k hk).1
        have b2 := (b1.alloc (by have := b1.size; omega) (.cells (intsV L2).toArray 3)).grown hg2 (by have := b1.size; simp; omega) (by intro k hk; simp [Value.ownBlock] at hk; omega)
        have b3 := (b2.alloc (by have := b2.size; omega) (.cells (intsV L3).toArray 3)).grown hg3 (by have := b2.size; simp; omega) r1
        exact (b3.alloc (by have := b3.size; omega) (.cells (intsV L3).toArray 3)).grown hg4 (by have := b3.size; simp; omega) r2
      obtain ⟨g3, cap3, e3, _, hl3⟩ := hw4.form (by omega)
      obtain ⟨g4, cap4, e4, _, hl4⟩ := hv4.form (by omega)
      have k3 : Eqs w4 g3 := fun k hk => by rw [e3] at hw4; rw [hw4.cellAt k (by omega)]; exact all_at k hk
      have k4 : Eqs w4 g4 := fun k hk => by rw [e4] at hv4; rw [hv4.cellAt k (by omega)]; exact all_at k hk
      have K3 := Lib.hid k3
      have K4 := Lib.hid k4
      rw [e3, e4]
      clear k3 k4 hw4 hv4 e3 e4 ha1 ha2 ha3 ha4 hg1 hg2 hg3 hg4 hv1 hv2 hv3 hw0 hw1 hw2 hw3
      go_loopw [5] (fun i wx => Cnt 59 i fun _ => Eqs wx g3 ∧ Eqs wx g4 ∧ Below w.heap.size w wx) (fun i _ => 59 - (intOf i).toNat)
      case atStart => exact ⟨0, Nat.zero_le _, rfl, K3.out, K4.out, hb4⟩
      case round =>
        clear K3 K4
        obtain ⟨k, hk, rfl, k3, k4, hbx⟩ := hrel
        have K3 := Lib.hid k3
        have K4 := Lib.hid k4
        by_cases hk9 : k < 59
        · have c3 := k3 k hk9
          have c4 := k4 k hk9
          clear k3 k4
          generalize Lall.getD k 0 = z at c3 c4
          go_wp2
          go_quiet (fail)
          go_wp2
          exact ⟨⟨k + 1, by omega, by go_num, K3.out, K4.out, Below.drewN' hbx _⟩, by simp [intOf]; omega⟩
        · clear k3 k4
          go_wp2
          go_ret
          exact ⟨rfl, hbx⟩
end Go.Proofs.Ytdjamdbamkhblaa
