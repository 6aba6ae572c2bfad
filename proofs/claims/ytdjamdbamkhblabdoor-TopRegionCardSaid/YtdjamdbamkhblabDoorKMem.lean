/- The walk of K.Mem: words of raw things, as plain data. No condition. -/
import Derived.Test.YtdjamdbamkhblabDoorMemP
import Derived.Test.YtdjamdbamkhblabDoorLaw
import Derived.Test.YtdjamdbamkhblabDoorRd
import Derived.Test.YtdjamdbamkhblabDoorBlk
import Derived.Test.YtdjamdbamkhblabDoorCells
namespace Go.Proofs.YtdjamdbamkhblabDoor
open Go.RowKit
set_option linter.unusedVariables false
set_option linter.unusedSimpArgs false
theorem kinfo_int : (Tryd.prog.info? 3).map (fun i => (i.zero, i.size, i.bytes)) = some (some (.int .i64 0), 1, 8) := by kernel_rfl
def rawV (r : Ins) : Value := .agg #[.int .i64 r.op, .int .i64 r.a, .int .i64 r.b, .int .i64 r.c]
/-- The words as far as they are laid. -/
structure MemS (w wr : World) (r : Ins) (n k : Nat) (cs : Array Value) : Prop where
  below : Below w.heap.size w wr
  raw : Blk wr w.heap.size 24 #[.int .i64 r.op, .int .i64 r.a, .int .i64 r.b, .int .i64 r.c]
  blk : Blk wr (w.heap.size + 1) 3 cs
  size : cs.size = n
  known : ∀ j, j < k → cs[j]? = some (.int .i64 (memV r j : Nat))
theorem MemS.set {w wr : World} {r : Ins} {n k : Nat} {cs : Array Value} (h : MemS w wr r n k cs) (hk : k < n) (x : Nat) : MemS w (wr.setCell ⟨w.heap.size + 1, k, none⟩ (.int .i64 (x : Int))) r n k (cs.setIfInBounds k (.int .i64 (x : Int))) := by
  refine ⟨h.below.setCell (p := ⟨w.heap.size + 1, k, none⟩) (by simp) _, h.raw.far (by simp) _, h.blk.set_ k _, by simp [h.size], fun j hj => ?_⟩
  rw [Array.getElem?_setIfInBounds, if_neg (by omega)]
  exact h.known j hj
theorem MemS.next {w wr : World} {r : Ins} {n k : Nat} {cs : Array Value} (h : MemS w wr r n k cs) (hk : k < n) (x : Nat) (hx : memV r k = x) : MemS w (wr.setCell ⟨w.heap.size + 1, k, none⟩ (.int .i64 (x : Int))) r n (k + 1) (cs.setIfInBounds k (.int .i64 (x : Int))) := by
  refine ⟨h.below.setCell (p := ⟨w.heap.size + 1, k, none⟩) (by simp) _, h.raw.far (by simp) _, h.blk.set_ k _, by simp [h.size], fun j hj => ?_⟩
  rw [Array.getElem?_setIfInBounds]
  by_cases e : k = j
  · subst e
    simp [h.size, hk, hx]
  · rw [if_neg e]
    exact h.known j (by omega)
theorem MemS.own {w wr : World} {r : Ins} {n : Nat} {cs : Array Value} (h : MemS w wr r n n cs) (hn : n ≤ maxLen) : wr.ownsRow w.heap.size 3 1 (.slice (some ⟨w.heap.size + 1, 0, none⟩) n n) n (intCells (memTo r n)) := by
  have e : cs = (intCells (memTo r n)).toArray := by
    apply Array.ext
    · simp [h.size, intCells, memTo_length]
    · intro i h1 h2
      have hi : i < n := by rw [← h.size]; exact h1
      have := h.known i hi
      rw [Array.getElem?_eq_getElem h1] at this
      have := Option.some.inj this
      rw [this]
      simp [intCells, memTo]
  have hb := h.blk
  rw [e] at hb
  exact ⟨by simp [intCells, memTo_length], .inr ⟨w.heap.size + 1, n, (intCells (memTo r n)).toArray, rfl, by omega, hb, Nat.le_refl _, hn, by simp [intCells, memTo_length], by rw [List.take_of_length_le (by simp [intCells, memTo_length])]⟩⟩
theorem memS_start (w : World) (r : Ins) (n : Nat) : MemS w ((w.alloc (.cells #[.int .i64 r.op, .int .i64 r.a, .int .i64 r.b, .int .i64 r.c] 24)).alloc (.cells (madeCells #[.int .i64 0] n) 3)) r n 0 (madeCells #[.int .i64 0] n) := by
  have h1 := (Below.refl w.heap.size w).alloc (Nat.le_refl _) (.cells #[.int .i64 r.op, .int .i64 r.a, .int .i64 r.b, .int .i64 r.c] 24)
  exact ⟨h1.alloc h1.size _, (Blk.new w _ _).alloc _, Blk.new' (by simp), by rw [size_madeCells], fun j hj => by omega⟩
set_option maxRecDepth 100000 in
set_option maxHeartbeats 4000000 in
theorem KMem_any (r : Ins) (hr : r.wf) (n : Nat) (hn : n ≤ 1024) (w : World) :
    Calls Tryd.prog 18 #[.agg #[.int .i64 r.op, .int .i64 r.a, .int .i64 r.b, .int .i64 r.c], .int .i64 (n : Int)] w fun e w' => ∃ V, e = .returned V ∧ w'.ownsRow w.heap.size 3 1 V n (intCells (memTo r n)) ∧ Below w.heap.size w w' := by
  obtain ⟨_, hra, hrb, hrc⟩ := hr
  have CA : Hid (∀ W : World, Calls Tryd.prog 22 #[.int .i64 r.a, .int .i64 65536] W fun e w' => e = .returned (.int .i64 (memN r 0 : Nat)) ∧ W = w') := fun W => picked_any r.a 65536 W hra.1 hra.2 (by omega) (by omega)
  obtain ⟨qb, hqb⟩ : ∃ qb, qb = pick r.b 1000 := ⟨_, rfl⟩
  have hqb1 : qb < 1000 := by rw [hqb]; exact pick_lt _ (by omega)
  have CB : Hid (∀ W : World, Calls Tryd.prog 22 #[.int .i64 r.b, .int .i64 1000] W fun e w' => e = .returned (.int .i64 (qb : Nat)) ∧ W = w') := fun W => by rw [hqb]; exact picked_any r.b 1000 W hrb.1 hrb.2 (by omega) (by omega)
  have CC : Hid (∀ (x : Int) (W : World), Calls Tryd.prog 22 #[.int .i64 (wrap64 x), .int .i64 3] W fun e w' => e = .returned (.int .i64 (pick (wrap64 x) 3 : Nat)) ∧ W = w') := fun x W => picked_any (wrap64 x) 3 W (by unfold wrap64; omega) (by unfold wrap64; omega) (by omega) (by omega)
  have HQ := Lib.hid hqb
  clear hqb hra hrb hrc
  have hmk : ∀ w : World, (Instr.makeSlice 33 (.int .i64 (n : Int)) (.int .i64 (n : Int))).run Tryd.prog w = .ok (.slice (some ⟨w.heap.size, 0, none⟩) n n) (w.alloc (.cells (madeCells #[.int .i64 0] n) 3)) :=
    fun w => by have e := mk_lit w 33 3 _ 1 8 n Tryd.underlying33 kinfo_int (by omega) (by omega); rw [Nat.mul_one] at e; exact e
  have hS := memS_start w r n
  go_enter Tryd.func18, Tryd.ntmps18
  go_wp2_with (first | (go_at_call 22; (with_reducible refine (CA.out _).mono ?_); rintro e w' ⟨rfl, rfl⟩))
  go_loopw [6, 15] (fun x i wr => Cnt n i fun k => x = .int .i64 (memN r k : Nat) ∧ ∃ cs, MemS w wr r n k cs) (fun _ i _ => n - (intOf i).toNat)
  case atStart => exact ⟨0, Nat.zero_le _, rfl, rfl, _, hS⟩
  case round =>
    clear hS
    obtain ⟨k, hk', rfl, rfl, cs, hS⟩ := hrel
    by_cases hlt : k < n
    · obtain ⟨q, hq⟩ : ∃ q, q = memN r k := ⟨_, rfl⟩
      have hq1 : q < 65536 := by rw [hq]; exact memN_lt r k
      have HM : Hid (memN r (k + 1) = (q * 31 + qb + 7) % 65536) := by show _ = _; rw [hq, HQ.out]; rfl
      have HV : Hid (memV r k = if pick (wrap64 (r.c + k)) 3 = 0 then memN r (k + 1) % 70 else q) := by show _ = _; rw [hq]; rfl
      rw [← hq]
      clear hq
      have hS1 := hS.set hlt q
      have hw1 : IntKind.i64.wrap ((q : Int) * 31) = (q : Int) * 31 := Go.IntWalk.i64_in _ (by omega)
      obtain ⟨x0, hx0⟩ : ∃ x0, cs[k]? = some x0 := ⟨_, Array.getElem?_eq_getElem (by rw [hS.size]; exact hlt)⟩
      have c0 := (hS.blk.cell k).trans hx0
      have f0 := hS.blk.frozen k
      have d2 := hS1.raw.cell 2
      have d3 := hS1.raw.cell 3
      simp at d2 d3
      obtain ⟨x1, hx1⟩ : ∃ x1, (cs.setIfInBounds k (.int .i64 (q : Int)))[k]? = some x1 := ⟨_, Array.getElem?_eq_getElem (by simp [hS.size, hlt])⟩
      have c1 := (hS1.blk.cell k).trans hx1
      have f1 := hS1.blk.frozen k
      clear hx0 hx1
      have HS := Lib.hid hS
      have HS1 := Lib.hid hS1
      clear hS hS1
      by_cases hp : pick (wrap64 (r.c + k)) 3 = 0
      · have CP : Hid (∀ W : World, Calls Tryd.prog 22 #[.int .i64 (wrap64 (r.c + k)), .int .i64 3] W fun e w' => e = .returned (.int .i64 0) ∧ W = w') := fun W => by have := CC.out (r.c + k) W; rw [hp] at this; exact this
        have HV2 : Hid (memV r k = ((q * 31 + qb + 7) % 65536) % 70) := by show _ = _; rw [HV.out, if_pos hp, HM.out]
        clear hp
        go_wp2_with (first | (go_at_call 22; (with_reducible refine (CB.out _).mono ?_); rintro e w' ⟨rfl, rfl⟩) | (go_at_call 22; (with_reducible refine (CP.out _).mono ?_); rintro e w' ⟨rfl, rfl⟩))
        have e1 : ((q : Int) * 31 + (qb : Int) + 7) % 65536 % 70 = (((q * 31 + qb + 7) % 65536 % 70 : Nat) : Int) := by omega
        have e2 : ((q : Int) * 31 + (qb : Int) + 7) % 65536 = (((q * 31 + qb + 7) % 65536 : Nat) : Int) := by omega
        exact ⟨⟨k + 1, hlt, by go_num, by rw [HM.out, e2], _, by rw [e1]; exact HS1.out.next hlt _ HV2.out⟩, by simp [intOf]; omega⟩
      · have hp0 : ¬ ((pick (wrap64 (r.c + k)) 3 : Nat) : Int) = 0 := by omega
        have HV2 : Hid (memV r k = q) := by show _ = _; rw [HV.out, if_neg hp]
        clear hp
        go_wp2_with (first | (go_at_call 22; (with_reducible refine (CB.out _).mono ?_); rintro e w' ⟨rfl, rfl⟩) | (go_at_call 22; (with_reducible refine (CC.out _ _).mono ?_); rintro e w' ⟨rfl, rfl⟩))
        have e2 : ((q : Int) * 31 + (qb : Int) + 7) % 65536 = (((q * 31 + qb + 7) % 65536 : Nat) : Int) := by omega
        exact ⟨⟨k + 1, hlt, by go_num, by rw [HM.out, e2], _, HS.out.next hlt _ HV2.out⟩, by simp [intOf]; omega⟩
    · obtain rfl : k = n := by omega
      go_wp2
      go_ret
      exact ⟨_, rfl, hS.own (by unfold maxLen; omega), hS.below⟩
end Go.Proofs.YtdjamdbamkhblabDoor
