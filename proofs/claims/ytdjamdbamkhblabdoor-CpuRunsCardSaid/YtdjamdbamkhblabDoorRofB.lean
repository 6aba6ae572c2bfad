/- The body of the reference's loop, and where it stands: no condition. -/
import Derived.Test.YtdjamdbamkhblabDoorRunOfL
import Derived.Test.YtdjamdbamkhblabDoorChk
namespace Go.Proofs.YtdjamdbamkhblabDoor
open Go.RowKit
set_option linter.unusedVariables false
set_option linter.unusedSimpArgs false

def firstLoop : Code → Option Code
  | .loop c => some c
  | .seq a b => match firstLoop a with
    | some c => some c
    | none => firstLoop b
  | .block _ c => firstLoop c
  | .scope c => firstLoop c
  | .cond _ a b => match firstLoop a with
    | some c => some c
    | none => firstLoop b
  | _ => none
noncomputable def rbody : Code := ((Tryd.f30.body.bind firstLoop).getD .skip)
/-- The outcome's cells as a list. -/
def outL (en : Nat) (r : List Nat) (T M : Value) : List Value := (ocCells en r T M).toList
/-- Where the loop stands. -/
def RWI (w1 : World) (gO g c : Nat) (A : Option Addr) (l : List Ins) (n : Nat) (s0 : Mc) (a : Act) (w' : World) : Prop :=
  a.defers = [] ∧ a.tmps.size = 254 ∧ a.tmps[0]? = some (.slice A l.length c) ∧ a.tmps[8]? = some (.pointer (some ⟨gO, 0, none⟩)) ∧ a.tmps[11]? = some (.pointer (some ⟨g, 0, none⟩)) ∧
    ∃ (k : Nat) (B p : Value), a.tmps[3]? = some (.int .i64 (k : Int)) ∧ a.tmps[12]? = some B ∧ a.tmps[13]? = some p ∧ k ≤ 20000 ∧ RLoop w1 w' g l n s0 k B p
def rmu (a : Act) (_ : World) : Nat := match a.tmps[3]? with
  | some (Value.int _ n) => n.toNat
  | _ => 0
/-- A world in which the outcome is laid. -/
structure XFin (w1 w2 : World) (gO : Nat) (s : Mc) (en : Nat) (T M : Value) : Prop where
  grown : w1.grownBy w2 (some gO)
  blk : Blk w2 gO 35 (ocCells en s.regs T M)
  ot : w2.ownsRow w1.heap.size 3 1 T s.told.length (natsV s.told)
  om : w2.ownsRow w1.heap.size 3 1 M s.mem.length (natsV s.mem)
theorem XFin.alloc {w1 w2 : World} {gO en : Nat} {s : Mc} {T M : Value} (h : XFin w1 w2 gO s en T M) (o : Obj) : XFin w1 (w2.alloc o) gO s en T M :=
  ⟨⟨h.grown.os, h.grown.tape, h.grown.output, by have := h.grown.size; simp; omega, fun q hq hne => (Below.heap_alloc w2 o q (Nat.lt_of_lt_of_le hq h.grown.size)).trans (h.grown.block q hq hne)⟩, h.blk.alloc o, h.ot.alloc o, h.om.alloc o⟩
theorem XFin.of {w1 W : World} {gO g en : Nat} {s : Mc} {B T M v0 v1 v2 v3 v4 v5 v6 v7 v8 v9 v10 : Value} (h : Ref w1 W g s en B T M) {cs : Array Value} (hO : Blk W gO 35 cs) (hs : cs.size = 11)
    (hv : outL en s.regs T M = [v0, v1, v2, v3, v4, v5, v6, v7, v8, v9, v10]) : XFin w1 (((((((((((W.setCell ⟨gO, 0, none⟩ v0).setCell ⟨gO, 1, none⟩ v1).setCell ⟨gO, 2, none⟩ v2).setCell ⟨gO, 3, none⟩ v3).setCell ⟨gO, 4, none⟩ v4).setCell ⟨gO, 5, none⟩ v5).setCell ⟨gO, 6, none⟩ v6).setCell ⟨gO, 7, none⟩ v7).setCell ⟨gO, 8, none⟩ v8).setCell ⟨gO, 9, none⟩ v9).setCell ⟨gO, 10, none⟩ v10) gO s en T M := by
  have hg := layL_grown gO [v0, v1, v2, v3, v4, v5, v6, v7, v8, v9, v10] 0 W
  have hk := hO.layAll [v0, v1, v2, v3, v4, v5, v6, v7, v8, v9, v10] hs
  have e : (ocCells en s.regs T M) = [v0, v1, v2, v3, v4, v5, v6, v7, v8, v9, v10].toArray := by rw [← hv]; rfl
  refine ⟨⟨hg.os.trans h.below.os, hg.tape.trans h.below.tape, hg.output.trans h.below.output, Nat.le_trans h.below.size hg.size, fun q hq hne => (hg.block q (Nat.lt_of_lt_of_le hq h.below.size) hne).trans (h.below.block q hq)⟩, ?_, h.ot.kept hg (.inr (own_blk_ne h.ot hO (by decide))), h.om.kept hg (.inr (own_blk_ne h.om hO (by decide)))⟩
  rw [e]
  exact hk
/-- What a return out of the loop is good for. -/
def RExit (w1 : World) (gO : Nat) (l : List Ins) (n : Nat) (s0 : Mc) (Q0 : Exit → Act → World → Prop) : Prop :=
  ∀ (a' : Act) (w2 : World) (s' : Mc) (en : Nat) (T' M' : Value), runs l n s0 = (s', en) → XFin w1 w2 gO s' en T' M' → a'.defers = [] → a'.tmps.size = 254 → a'.tmps[8]? = some (.pointer (some ⟨gO, 0, none⟩)) → a'.tmps[9]? = some (.int .i64 0) → Q0 .ret a' w2
set_option maxRecDepth 100000 in
theorem arr_lit (t : Array Value) (h : t.size = 254) : ∃ u : Nat → Value, t = #[u 0, u 1, u 2, u 3, u 4, u 5, u 6, u 7, u 8, u 9, u 10, u 11, u 12, u 13, u 14, u 15, u 16, u 17, u 18, u 19, u 20, u 21, u 22, u 23, u 24, u 25, u 26, u 27, u 28, u 29, u 30, u 31, u 32, u 33, u 34, u 35, u 36, u 37, u 38, u 39, u 40, u 41, u 42, u 43, u 44, u 45, u 46, u 47, u 48, u 49, u 50, u 51, u 52, u 53, u 54, u 55, u 56, u 57, u 58, u 59, u 60, u 61, u 62, u 63, u 64, u 65, u 66, u 67, u 68, u 69, u 70, u 71, u 72, u 73, u 74, u 75, u 76, u 77, u 78, u 79, u 80, u 81, u 82, u 83, u 84, u 85, u 86, u 87, u 88, u 89, u 90, u 91, u 92, u 93, u 94, u 95, u 96, u 97, u 98, u 99, u 100, u 101, u 102, u 103, u 104, u 105, u 106, u 107, u 108, u 109, u 110, u 111, u 112, u 113, u 114, u 115, u 116, u 117, u 118, u 119, u 120, u 121, u 122, u 123, u 124, u 125, u 126, u 127, u 128, u 129, u 130, u 131, u 132, u 133, u 134, u 135, u 136, u 137, u 138, u 139, u 140, u 141, u 142, u 143, u 144, u 145, u 146, u 147, u 148, u 149, u 150, u 151, u 152, u 153, u 154, u 155, u 156, u 157, u 158, u 159, u 160, u 161, u 162, u 163, u 164, u 165, u 166, u 167, u 168, u 169, u 170, u 171, u 172, u 173, u 174, u 175, u 176, u 177, u 178, u 179, u 180, u 181, u 182, u 183, u 184, u 185, u 186, u 187, u 188, u 189, u 190, u 191, u 192, u 193, u 194, u 195, u 196, u 197, u 198, u 199, u 200, u 201, u 202, u 203, u 204, u 205, u 206, u 207, u 208, u 209, u 210, u 211, u 212, u 213, u 214, u 215, u 216, u 217, u 218, u 219, u 220, u 221, u 222, u 223, u 224, u 225, u 226, u 227, u 228, u 229, u 230, u 231, u 232, u 233, u 234, u 235, u 236, u 237, u 238, u 239, u 240, u 241, u 242, u 243, u 244, u 245, u 246, u 247, u 248, u 249, u 250, u 251, u 252, u 253] := by
  refine ⟨fun i => t.getD i undef, ?_⟩
  have e : t = ((List.range 254).map fun i => t.getD i undef).toArray := by
    apply Array.ext
    · simp [h]
    · intro i h1 h2
      simp [Array.getD_eq_getD_getElem?, h1]
  exact e
/-- The round's end. -/
theorem RWI.mk {w1 w' : World} {gO g c n k : Nat} {A : Option Addr} {l : List Ins} {s0 : Mc} {a : Act} {B p : Value} (h0 : a.defers = []) (h1 : a.tmps.size = 254) (h2 : a.tmps[0]? = some (.slice A l.length c)) (h3 : a.tmps[8]? = some (.pointer (some ⟨gO, 0, none⟩)))
    (h4 : a.tmps[11]? = some (.pointer (some ⟨g, 0, none⟩))) (h5 : a.tmps[3]? = some (.int .i64 (k : Int))) (h6 : a.tmps[12]? = some B) (h7 : a.tmps[13]? = some p) (hk : k ≤ 20000) (hR : RLoop w1 w' g l n s0 k B p) : RWI w1 gO g c A l n s0 a w' ∧ rmu a w' < k + 1 := by
  refine ⟨⟨h0, h1, h2, h3, h4, k, B, p, h5, h6, h7, hk, hR⟩, ?_⟩
  unfold rmu
  rw [h5]
  simp
end Go.Proofs.YtdjamdbamkhblabDoor
