/- Eight registers that came in; the laws' comparison of two outcomes that hold the same: it answers true. No condition. -/
import Derived.Test.YtdjamdbamkhblabDoorSame
import Derived.Test.YtdjamdbamkhblabDoorEqRegs
import Derived.Test.YtdjamdbamkhblabDoorRun
namespace Go.Proofs.YtdjamdbamkhblabDoor
open Go.RowKit
set_option linter.unusedVariables false
set_option linter.unusedSimpArgs false

section
variable {H : Type} {enc : TypeId × Value → H} {P : Program}
theorem open_regs {W : World} {base : Nat} {spare : Nat → Bool} {held : Bool} {t e : TypeId} {v : Value} {d : DataW H} {p : List MemPlace} {r : Reach} {b0 : Nat}
    (hu : P.underlying t = some (.array 8 e)) (he : P.underlying e = some (.int .i64)) (hce : P.cellsOf e = 1) (hct : P.cellsOf t = 8) (hv : Value.okWide P W r b0 t v) (h : DataW.Trod enc P W base spare held t v d p) :
    ∃ r0 r1 r2 r3 r4 r5 r6 r7 : Int, v = .agg #[.int .i64 r0, .int .i64 r1, .int .i64 r2, .int .i64 r3, .int .i64 r4, .int .i64 r5, .int .i64 r6, .int .i64 r7] := by
  simp only [Value.okWide, hu] at hv
  obtain ⟨cs, rfl, h2, _⟩ := hv
  obtain ⟨fuel, hf⟩ := h
  obtain ⟨xs, m, _, _, hlen, hxl, hg⟩ := DataW.trod_array hu hf
  have hsz : cs.size = 8 := by rw [h2, hct]
  match cs, hsz with
  | ⟨[c0, c1, c2, c3, c4, c5, c6, c7]⟩, _ =>
    have at_ : ∀ (i : Nat) (c : Value), i < 8 → [c0, c1, c2, c3, c4, c5, c6, c7][i]? = some c → ∃ n : Int, c = .int .i64 n := fun i c hi hc => by
      have h1 := hg i hi
      rw [hce] at h1
      have h3 : ((Value.agg ⟨[c0, c1, c2, c3, c4, c5, c6, c7]⟩).cells.toList.drop (i * 1)).take 1 = [c] := by
        show ([c0, c1, c2, c3, c4, c5, c6, c7].drop (i * 1)).take 1 = [c]
        rw [Nat.mul_one]
        have : [c0, c1, c2, c3, c4, c5, c6, c7].drop i = c :: [c0, c1, c2, c3, c4, c5, c6, c7].drop (i + 1) := by
          obtain ⟨hl, rfl⟩ := List.getElem?_eq_some_iff.1 hc
          exact List.drop_eq_getElem_cons hl
        rw [this]
        rfl
      rw [h3, List.getElem?_eq_getElem (by omega)] at h1
      obtain ⟨n, e0, _⟩ := DataW.trod_int he h1
      exact ⟨n, by simpa using e0⟩
    obtain ⟨r0, rfl⟩ := at_ 0 c0 (by omega) rfl
    obtain ⟨r1, rfl⟩ := at_ 1 c1 (by omega) rfl
    obtain ⟨r2, rfl⟩ := at_ 2 c2 (by omega) rfl
    obtain ⟨r3, rfl⟩ := at_ 3 c3 (by omega) rfl
    obtain ⟨r4, rfl⟩ := at_ 4 c4 (by omega) rfl
    obtain ⟨r5, rfl⟩ := at_ 5 c5 (by omega) rfl
    obtain ⟨r6, rfl⟩ := at_ 6 c6 (by omega) rfl
    obtain ⟨r7, rfl⟩ := at_ 7 c7 (by omega) rfl
    exact ⟨r0, r1, r2, r3, r4, r5, r6, r7, rfl⟩
end
/-- Words as integers. -/
def intsOf (l : List Nat) : List Int := l.map fun (x : Nat) => (x : Int)
theorem intsOf_cells (l : List Nat) : intCells (intsOf l) = natsV l := by unfold intCells intsOf natsV; rw [List.map_map]; rfl
theorem intsOf_len (l : List Nat) : (intsOf l).length = l.length := by simp [intsOf]
theorem rdN_own {w : World} {base c n : Nat} {A : Option Addr} {l : List Nat} (h : w.ownsRow base 3 1 (.slice A n c) n (natsV l)) (hn : n = l.length) : RdN w w.heap.size A (intsOf l) := by
  have := Rd.of_own h
  rw [← intsOf_cells, hn, ← intsOf_len] at this
  exact RdN.of this
theorem own_nilN {w : World} {base : Nat} {e : TypeId} {size n n' c : Nat} {A : Option Addr} {xs : List Value} (h : w.ownsRow base e size (.slice A n c) n' xs) : A = none → n = 0 ∧ c = 0 := by
  intro hA
  subst hA
  rcases h.2 with ⟨h0, _⟩ | ⟨g, cap, cur, h0, _⟩
  · injection h0 with _ h1 h2
    exact ⟨h1, h2⟩
  · injection h0 with h1
    cases h1
set_option maxRecDepth 100000 in
set_option maxHeartbeats 4000000 in
theorem sameOutcome_any (en : Nat) (v0 v1 v2 v3 v4 v5 v6 v7 : Nat) (A A' B B' : Option Addr) (c c' d d' : Nat) (t m : List Int) (w : World) (h1 : RdN w w.heap.size A t) (h2 : RdN w w.heap.size A' t) (h3 : RdN w w.heap.size B m) (h4 : RdN w w.heap.size B' m)
    (ht : t.length ≤ maxLen) (hm : m.length ≤ maxLen) :
    Calls Tryd.prog 31 #[.agg #[.int .i64 (en : Int), .int .i64 (v0 : Int), .int .i64 (v1 : Int), .int .i64 (v2 : Int), .int .i64 (v3 : Int), .int .i64 (v4 : Int), .int .i64 (v5 : Int), .int .i64 (v6 : Int), .int .i64 (v7 : Int), .slice A t.length c, .slice B m.length d],
      .agg #[.int .i64 (en : Int), .int .i64 (v0 : Int), .int .i64 (v1 : Int), .int .i64 (v2 : Int), .int .i64 (v3 : Int), .int .i64 (v4 : Int), .int .i64 (v5 : Int), .int .i64 (v6 : Int), .int .i64 (v7 : Int), .slice A' t.length c', .slice B' m.length d']] w
      fun e w' => e = .returned (.bool true) ∧ Below w.heap.size w w' := by
  have heq := eql_regs
  have hW : ∀ (o1 o2 : Obj), Below w.heap.size w ((w.alloc o1).alloc o2) := fun o1 o2 => ((Below.refl _ _).alloc (Nat.le_refl _) _).alloc (by simp) _
  have HW := Lib.hid hW
  have H1 := Lib.hid h1
  have H2 := Lib.hid h2
  have H3 := Lib.hid h3
  have H4 := Lib.hid h4
  have HT := Lib.hid ht
  have HM := Lib.hid hm
  clear hW h1 h2 h3 h4 ht hm
  go_enter Tryd.func31, Tryd.ntmps31
  go_wp2_with fail
  refine (sameInts_any A A' c c' t _ ((H1.out.below (HW.out _ _)).more (HW.out _ _).size) ((H2.out.below (HW.out _ _)).more (HW.out _ _).size) HT.out).mono ?_
  rintro e w1 ⟨rfl, n1, rfl⟩
  go_wp2_with fail
  refine (sameInts_any B B' d d' m _ ((H3.out.below (Below.drewN' (HW.out _ _) _)).more (HW.out _ _).size) ((H4.out.below (Below.drewN' (HW.out _ _) _)).more (HW.out _ _).size) HM.out).mono ?_
  rintro e w1 ⟨rfl, n2, rfl⟩
  go_wp2
  go_ret
  exact ⟨rfl, Below.drewN' (HW.out _ _) _⟩
end Go.Proofs.YtdjamdbamkhblabDoor
