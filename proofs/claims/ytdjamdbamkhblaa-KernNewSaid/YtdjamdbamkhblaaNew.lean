/- The walks of kern.New and of its reference: the new kernel. -/
import Derived.Test.YtdjamdbamkhblaaBlk
import Derived.Test.YtdjamdbamkhblaaKernData
import Derived.Deep.RegionLaw
namespace Go.Proofs.Ytdjamdbamkhblaa
open Go.RowKit

theorem ninfo_int : (Try.prog.info? 3).map (fun i => (i.zero, i.size, i.bytes)) = some (some (.int .i64 0), 1, 8) := by kernel_rfl
theorem ninfo_node : (Try.prog.info? 54).map (fun i => (i.zero, i.size, i.bytes)) = some (some (.agg #[.string ⟨#[]⟩, .int .i64 0, .string ⟨#[]⟩, .int .i64 0]), 4, 48) := by kernel_rfl
theorem ninfo_str : (Try.prog.info? 9).map (fun i => (i.zero, i.size, i.bytes)) = some (some (.string ⟨#[]⟩), 1, 16) := by kernel_rfl
theorem ninfo_end : (Try.prog.info? 56).map (fun i => (i.zero, i.size, i.bytes)) = some (some (.agg #[.int .i64 0, .int .i64 0, .int .i64 0]), 3, 24) := by kernel_rfl
theorem ninfo_proc : (Try.prog.info? 51).map (fun i => (i.zero, i.size, i.bytes)) = some (some (.agg #[.bool false, .slice none 0 0]), 2, 32) := by kernel_rfl
def zInt : Array Value := madeCells #[.int .i64 0] 1024
def zNod : Array Value := madeCells #[.string ⟨#[]⟩, .int .i64 0, .string ⟨#[]⟩, .int .i64 0] 32
def zStr : Array Value := madeCells #[.string ⟨#[]⟩] 6
def zEnd : Array Value := madeCells #[.int .i64 0, .int .i64 0, .int .i64 0] 18
def zPrc : Array Value := madeCells #[.bool false, .slice none 0 0] 8
theorem mk_int (w : World) : (Instr.makeSlice 24 (.int .i64 1024) (.int .i64 1024)).run Try.prog w = .ok (.slice (some ⟨w.heap.size, 0, none⟩) 1024 1024) (w.alloc (.cells zInt 3)) := mk_lit w 24 3 _ 1 8 1024 Try.underlying24 ninfo_int (by omega) (by omega)
theorem mk_nod (w : World) : (Instr.makeSlice 31 (.int .i64 8) (.int .i64 8)).run Try.prog w = .ok (.slice (some ⟨w.heap.size, 0, none⟩) 8 8) (w.alloc (.cells zNod 54)) := mk_lit w 31 54 _ 4 48 8 Try.underlying31 ninfo_node (by omega) (by omega)
theorem mk_str (w : World) : (Instr.makeSlice 32 (.int .i64 6) (.int .i64 6)).run Try.prog w = .ok (.slice (some ⟨w.heap.size, 0, none⟩) 6 6) (w.alloc (.cells zStr 9)) := mk_lit w 32 9 _ 1 16 6 Try.underlying32 ninfo_str (by omega) (by omega)
theorem mk_end (w : World) : (Instr.makeSlice 49 (.int .i64 6) (.int .i64 6)).run Try.prog w = .ok (.slice (some ⟨w.heap.size, 0, none⟩) 6 6) (w.alloc (.cells zEnd 56)) := mk_lit w 49 56 _ 3 24 6 Try.underlying49 ninfo_end (by omega) (by omega)
theorem mk_prc (w : World) : (Instr.makeSlice 33 (.int .i64 4) (.int .i64 4)).run Try.prog w = .ok (.slice (some ⟨w.heap.size, 0, none⟩) 4 4) (w.alloc (.cells zPrc 51)) := mk_lit w 33 51 _ 2 32 4 Try.underlying33 ninfo_proc (by omega) (by omega)

def sl (g n : Nat) : Value := .slice (some ⟨g, 0, none⟩) n n
/-- A kernel under way: its five slices in block g. -/
structure NewK (w0 wx : World) (g g1 g2 g3 : Nat) (V : Value) : Prop where
  below : Below w0.heap.size w0 wx
  lo : w0.heap.size < g
  lo1 : w0.heap.size < g1
  lo2 : w0.heap.size < g2
  lo3 : w0.heap.size < g3
  blk : Blk wx g 35 #[.slice none 0 0, sl g1 1024, sl g2 8, sl g3 6, V]
  b0 : Blk wx w0.heap.size 35 #[.slice none 0 0, .slice none 0 0, .slice none 0 0, .slice none 0 0, .slice none 0 0]
  b1 : Blk wx g1 3 zInt
  b2 : Blk wx g2 54 zNod
  b3 : Blk wx g3 9 zStr
/-- The processes' row of a kernel under way, in the reference: the first ones. -/
def pcs : Nat → List Nat → List Value
  | _, [] => []
  | i, e :: r => .bool ((i : Int) == 0) :: sl e 6 :: pcs (i + 1) r
theorem pcs_snoc : ∀ (i : Nat) (es : List Nat) (e : Nat), pcs i (es ++ [e]) = pcs i es ++ [.bool (((i + es.length : Nat) : Int) == 0), sl e 6]
  | i, [], e => by simp [pcs]
  | i, x :: r, e => by
    rw [List.cons_append, pcs, pcs_snoc (i + 1) r e, pcs, List.length_cons, show i + 1 + r.length = i + (r.length + 1) by omega]
    rfl
structure NewR (w0 wx : World) (g g1 g2 g3 k : Nat) (V : Value) (es : List Nat) : Prop where
  nk : NewK w0 wx g g1 g2 g3 V
  len : es.length = k
  own : wx.ownsRow w0.heap.size 51 2 V k (pcs 0 es)
  ends : ∀ e ∈ es, w0.heap.size < e ∧ Blk wx e 56 zEnd
  nd : es.Pairwise (· ≠ ·)
theorem NewR.next {w0 wr W w1 : World} {g g1 g2 g3 k : Nat} {V V' : Value} {es : List Nat} (h : NewR w0 wr g g1 g2 g3 k V es) (hW : Below wr.heap.size wr W) (hE : Blk W wr.heap.size 56 zEnd)
    (h1 : w1.ownsRow w0.heap.size 51 2 V' (k + 1) (pcs 0 es ++ [.bool ((k : Int) == 0), sl wr.heap.size 6])) (hg : W.grownBy w1 V.ownBlock) :
    NewR w0 (w1.setCell ⟨g, 4, none⟩ V') g g1 g2 g3 (k + 1) V' (es ++ [wr.heap.size]) := by
  have hlt : w0.heap.size < wr.heap.size := Nat.lt_trans h.nk.lo h.nk.blk.lt
  have keep : ∀ {q : Nat} {t : TypeId} {cs : Array Value}, Blk wr q t cs → 51 ≠ t → Blk w1 q t cs := fun {q t cs} hq hne =>
    (hq.below hW hq.lt).grown hg (fun e => own_blk_ne h.own hq hne e.symm)
  have far : ∀ {q : Nat} {t : TypeId} {cs : Array Value}, Blk w1 q t cs → q ≠ g → Blk (w1.setCell ⟨g, 4, none⟩ V') q t cs := fun hq hne => hq.far (p := ⟨g, 4, none⟩) hne V'
  have kg := keep h.nk.blk (by decide)
  have hE1 : Blk w1 wr.heap.size 56 zEnd := hE.grown hg (fun e => by
    rcases h.own.2 with ⟨hv, _⟩ | ⟨g', _, _, hv, _, hh, _⟩
    · rw [hv] at e; cases e
    · rw [hv] at e
      have : wr.heap.size = g' := by simpa [Value.ownBlock] using e
      have := Blk.lt (t := 51) hh
      omega)
  refine ⟨⟨?_, h.nk.lo, h.nk.lo1, h.nk.lo2, h.nk.lo3, ?_, ?_, ?_, ?_, ?_⟩, by simp [h.len], ?_, ?_, ?_⟩
  · have b1 := (h.nk.below.trans (hW.mono h.nk.below.size))
    exact (b1.grown hg (Nat.le_trans h.nk.below.size hW.size) (fun q hq => by
      obtain ⟨hb, _⟩ := h.own.lt q hq
      exact hb)).setCell (Nat.le_of_lt h.nk.lo) V'
  · exact kg.set_ 4 V'
  · exact far (keep h.nk.b0 (by decide)) (Nat.ne_of_lt h.nk.lo)
  · exact far (keep h.nk.b1 (by decide)) (fun e => (keep h.nk.b1 (by decide)).ne_ kg (by decide) e)
  · exact far (keep h.nk.b2 (by decide)) (fun e => (keep h.nk.b2 (by decide)).ne_ kg (by decide) e)
  · exact far (keep h.nk.b3 (by decide)) (fun e => (keep h.nk.b3 (by decide)).ne_ kg (by decide) e)
  · rw [pcs_snoc, h.len, Nat.zero_add]
    exact h1.kept (row := some g) ⟨rfl, rfl, rfl, by simp, fun q hq hne => Below.heap_setCell w1 ⟨g, 4, none⟩ V' q (fun e => hne (by rw [e]))⟩ (.inr (own_blk_ne h1 kg (by decide)))
  · intro e he
    rcases List.mem_append.1 he with he | he
    · obtain ⟨e1, e2⟩ := h.ends e he
      exact ⟨e1, far (keep e2 (by decide)) (fun x => (keep e2 (by decide)).ne_ kg (by decide) x)⟩
    · obtain rfl : e = wr.heap.size := by simpa using he
      exact ⟨hlt, far hE1 (fun x => hE1.ne_ kg (by decide) x)⟩
  · rw [List.pairwise_append]
    refine ⟨h.nd, by simp, fun a ha b hb => ?_⟩
    obtain rfl : b = wr.heap.size := by simpa using hb
    exact Nat.ne_of_lt (h.ends a ha).2.lt

/-- A new kernel's five rows. -/
structure NewF (w0 wx : World) (g1 g2 g3 : Nat) (V : Value) (xs : List Value) (es : List Nat) : Prop where
  below : Below w0.heap.size w0 wx
  b1 : Blk wx g1 3 zInt
  b2 : Blk wx g2 54 zNod
  b3 : Blk wx g3 9 zStr
  own : wx.ownsRow w0.heap.size 51 2 V 4 xs
  ends : ∀ e ∈ es, Blk wx e 56 zEnd
  lo1 : w0.heap.size < g1
  lo2 : w0.heap.size < g2
  lo3 : w0.heap.size < g3
  loe : ∀ e ∈ es, w0.heap.size < e
  nd : es.Pairwise (· ≠ ·)
theorem NewR.fin' {w0 wr W : World} {g g1 g2 g3 : Nat} {V : Value} {es : List Nat} (h : NewR w0 wr g g1 g2 g3 4 V es) (hb : Below w0.heap.size w0 W) (hg : wr.grownBy W (some w0.heap.size)) : NewF w0 W g1 g2 g3 V (pcs 0 es) es := by
  have far : ∀ {q : Nat} {t : TypeId} {cs : Array Value}, Blk wr q t cs → w0.heap.size < q → Blk W q t cs := fun hq hlt => hq.grown hg (fun e => by cases e; omega)
  exact ⟨hb, far h.nk.b1 h.nk.lo1, far h.nk.b2 h.nk.lo2, far h.nk.b3 h.nk.lo3, h.own.kept hg (.inr (own_blk_ne h.own h.nk.b0 (by decide))), fun e he => far (h.ends e he).2 (h.ends e he).1, h.nk.lo1, h.nk.lo2, h.nk.lo3, fun e he => (h.ends e he).1, h.nd⟩
theorem NewR.fin {w0 wr : World} {g g1 g2 g3 : Nat} {V : Value} {es : List Nat} (h : NewR w0 wr g g1 g2 g3 4 V es) (u0 u1 u2 u3 u4 : Value) : NewF w0 (lay5 wr w0.heap.size u0 u1 u2 u3 u4) g1 g2 g3 V (pcs 0 es) es :=
  h.fin' (lay5_below h.nk.below u0 u1 u2 u3 u4) (lay5_grown wr w0.heap.size u0 u1 u2 u3 u4)
theorem NewR.hold {w0 wr W w1 : World} {g g1 g2 g3 k : Nat} {V : Value} {es : List Nat} (h : NewR w0 wr g g1 g2 g3 k V es) (hW : Below wr.heap.size wr W) (hg : W.grownBy w1 V.ownBlock) :
    Blk w1 g 35 #[.slice none 0 0, sl g1 1024, sl g2 8, sl g3 6, V] :=
  (h.nk.blk.below hW h.nk.blk.lt).grown hg (fun e => own_blk_ne h.own h.nk.blk (by decide) e.symm)
theorem below5 (w : World) (o1 o2 o3 o4 o5 : Obj) : Below w.heap.size w (((((w.alloc o1).alloc o2).alloc o3).alloc o4).alloc o5).drew := by
  have h1 := (Below.refl w.heap.size w).alloc (Nat.le_refl _) o1
  have h2 := h1.alloc h1.size o2
  have h3 := h2.alloc h2.size o3
  have h4 := h3.alloc h3.size o4
  have h5 := h4.alloc h4.size o5
  exact h5.drew
theorem at5_1 (w : World) (o2 o3 o4 o5 : Obj) (t : TypeId) (cs : Array Value) : Blk (((((w.alloc (.cells cs t)).alloc o2).alloc o3).alloc o4).alloc o5).drew (w.heap.size) t cs := by
  refine Blk.drew ?_
  refine Blk.alloc ?_ _
  refine Blk.alloc ?_ _
  refine Blk.alloc ?_ _
  refine Blk.alloc ?_ _
  exact Blk.new' rfl
theorem at5_2 (w : World) (o1 o3 o4 o5 : Obj) (t : TypeId) (cs : Array Value) : Blk (((((w.alloc o1).alloc (.cells cs t)).alloc o3).alloc o4).alloc o5).drew (w.heap.size + 1) t cs := by
  refine Blk.drew ?_
  refine Blk.alloc ?_ _
  refine Blk.alloc ?_ _
  refine Blk.alloc ?_ _
  exact Blk.new' (by simp)
theorem at5_3 (w : World) (o1 o2 o4 o5 : Obj) (t : TypeId) (cs : Array Value) : Blk (((((w.alloc o1).alloc o2).alloc (.cells cs t)).alloc o4).alloc o5).drew (w.heap.size + 1 + 1) t cs := by
  refine Blk.drew ?_
  refine Blk.alloc ?_ _
  refine Blk.alloc ?_ _
  exact Blk.new' (by simp)
theorem at5_4 (w : World) (o1 o2 o3 o5 : Obj) (t : TypeId) (cs : Array Value) : Blk (((((w.alloc o1).alloc o2).alloc o3).alloc (.cells cs t)).alloc o5).drew (w.heap.size + 1 + 1 + 1) t cs := by
  refine Blk.drew ?_
  refine Blk.alloc ?_ _
  exact Blk.new' (by simp)
theorem at5_5 (w : World) (o1 o2 o3 o4 : Obj) (t : TypeId) (cs : Array Value) : Blk (((((w.alloc o1).alloc o2).alloc o3).alloc o4).alloc (.cells cs t)).drew (w.heap.size + 1 + 1 + 1 + 1) t cs := by
  refine Blk.drew ?_
  exact Blk.new' (by simp)
theorem below6 (w : World) (o1 o2 o3 o4 o5 o6 : Obj) : Below w.heap.size w ((((((w.alloc o1).alloc o2).alloc o3).alloc o4).alloc o5).alloc o6).drew := by
  have h1 := (Below.refl w.heap.size w).alloc (Nat.le_refl _) o1
  have h2 := h1.alloc h1.size o2
  have h3 := h2.alloc h2.size o3
  have h4 := h3.alloc h3.size o4
  have h5 := h4.alloc h4.size o5
  have h6 := h5.alloc h5.size o6
  exact h6.drew
theorem at6_1 (w : World) (o2 o3 o4 o5 o6 : Obj) (t : TypeId) (cs : Array Value) : Blk ((((((w.alloc (.cells cs t)).alloc o2).alloc o3).alloc o4).alloc o5).alloc o6).drew (w.heap.size) t cs := by
  refine Blk.drew ?_
  refine Blk.alloc ?_ _
  refine Blk.alloc ?_ _
  refine Blk.alloc ?_ _
  refine Blk.alloc ?_ _
  refine Blk.alloc ?_ _
  exact Blk.new' rfl
theorem at6_2 (w : World) (o1 o3 o4 o5 o6 : Obj) (t : TypeId) (cs : Array Value) : Blk ((((((w.alloc o1).alloc (.cells cs t)).alloc o3).alloc o4).alloc o5).alloc o6).drew (w.heap.size + 1) t cs := by
  refine Blk.drew ?_
  refine Blk.alloc ?_ _
  refine Blk.alloc ?_ _
  refine Blk.alloc ?_ _
  refine Blk.alloc ?_ _
  exact Blk.new' (by simp)
theorem at6_3 (w : World) (o1 o2 o4 o5 o6 : Obj) (t : TypeId) (cs : Array Value) : Blk ((((((w.alloc o1).alloc o2).alloc (.cells cs t)).alloc o4).alloc o5).alloc o6).drew (w.heap.size + 1 + 1) t cs := by
  refine Blk.drew ?_
  refine Blk.alloc ?_ _
  refine Blk.alloc ?_ _
  refine Blk.alloc ?_ _
  exact Blk.new' (by simp)
theorem at6_4 (w : World) (o1 o2 o3 o5 o6 : Obj) (t : TypeId) (cs : Array Value) : Blk ((((((w.alloc o1).alloc o2).alloc o3).alloc (.cells cs t)).alloc o5).alloc o6).drew (w.heap.size + 1 + 1 + 1) t cs := by
  refine Blk.drew ?_
  refine Blk.alloc ?_ _
  refine Blk.alloc ?_ _
  exact Blk.new' (by simp)
theorem at6_5 (w : World) (o1 o2 o3 o4 o6 : Obj) (t : TypeId) (cs : Array Value) : Blk ((((((w.alloc o1).alloc o2).alloc o3).alloc o4).alloc (.cells cs t)).alloc o6).drew (w.heap.size + 1 + 1 + 1 + 1) t cs := by
  refine Blk.drew ?_
  refine Blk.alloc ?_ _
  exact Blk.new' (by simp)
theorem at6_6 (w : World) (o1 o2 o3 o4 o5 : Obj) (t : TypeId) (cs : Array Value) : Blk ((((((w.alloc o1).alloc o2).alloc o3).alloc o4).alloc o5).alloc (.cells cs t)).drew (w.heap.size + 1 + 1 + 1 + 1 + 1) t cs := by
  refine Blk.drew ?_
  exact Blk.new' (by simp)
theorem NewK.cut {w wx : World} {g g1 g2 g3 : Nat} {V : Value} (blk : Blk wx g 35 #[.slice none 0 0, sl g1 1024, sl g2 8, sl g3 6, V]) (below : Below w.heap.size w wx)
    (b0 : Blk wx w.heap.size 35 #[.slice none 0 0, .slice none 0 0, .slice none 0 0, .slice none 0 0, .slice none 0 0]) (b1 : Blk wx g1 3 zInt) (b2 : Blk wx g2 54 zNod) (b3 : Blk wx g3 9 zStr)
    (lo : w.heap.size < g) (lo1 : w.heap.size < g1) (lo2 : w.heap.size < g2) (lo3 : w.heap.size < g3) : ∃ g' g1' g2' g3', Value.pointer (some ⟨g, 0, none⟩) = .pointer (some ⟨g', 0, none⟩) ∧ NewK w wx g' g1' g2' g3' V :=
  ⟨g, g1, g2, g3, rfl, ⟨below, lo, lo1, lo2, lo3, blk, b0, b1, b2, b3⟩⟩
theorem NewK.cut4 {w wx : World} {g g1 g2 g3 g4 : Nat} (blk : Blk wx g 35 #[.slice none 0 0, sl g1 1024, sl g2 8, sl g3 6, sl g4 4]) (below : Below w.heap.size w wx)
    (b0 : Blk wx w.heap.size 35 #[.slice none 0 0, .slice none 0 0, .slice none 0 0, .slice none 0 0, .slice none 0 0]) (b1 : Blk wx g1 3 zInt) (b2 : Blk wx g2 54 zNod) (b3 : Blk wx g3 9 zStr) (b4 : Blk wx g4 51 zPrc)
    (lo : w.heap.size < g) (lo1 : w.heap.size < g1) (lo2 : w.heap.size < g2) (lo3 : w.heap.size < g3) (lo4 : w.heap.size < g4) :
    ∃ g' g1' g2' g3' g4', Value.pointer (some ⟨g, 0, none⟩) = .pointer (some ⟨g', 0, none⟩) ∧ NewK w wx g' g1' g2' g3' (sl g4' 4) ∧ w.heap.size < g4' ∧ Blk wx g4' 51 zPrc :=
  ⟨g, g1, g2, g3, g4, rfl, ⟨below, lo, lo1, lo2, lo3, blk, b0, b1, b2, b3⟩, lo4, b4⟩
set_option maxHeartbeats 4000000 in
theorem KernelOf_own (w : World) : Calls Try.prog 12 #[] w fun e w' => ∃ g1 g2 g3 V es, e = .returned (.agg #[.slice none 0 0, sl g1 1024, sl g2 8, sl g3 6, V]) ∧ NewF w w' g1 g2 g3 V (pcs 0 es) es ∧ es.length = 4 := by
  have m1 := mk_int
  have m2 := mk_nod
  have m3 := mk_str
  have m4 := mk_end
  obtain ⟨i0, hi0, hz0, hz1, hz2⟩ := info_parts ninfo_proc
  go_enter Try.func12, Try.ntmps12
  go_upto_region 1 with fail
  go_cut [1] (fun u wx => ∃ g g1 g2 g3, u = .pointer (some ⟨g, 0, none⟩) ∧ NewK w wx g g1 g2 g3 (.slice none 0 0))
  case first =>
    go_region
    all_goals
      go_wp2_with fail
      go_meet
      first
        | exact NewK.cut (at5_5 w _ _ _ _ _ _) (below5 w _ _ _ _ _) (at5_1 w _ _ _ _ _ _) (by first | exact at5_2 w _ _ _ _ _ _ | exact at5_3 w _ _ _ _ _ _ | exact at5_4 w _ _ _ _ _ _ | exact at5_5 w _ _ _ _ _ _) (by first | exact at5_2 w _ _ _ _ _ _ | exact at5_3 w _ _ _ _ _ _ | exact at5_4 w _ _ _ _ _ _ | exact at5_5 w _ _ _ _ _ _) (by first | exact at5_2 w _ _ _ _ _ _ | exact at5_3 w _ _ _ _ _ _ | exact at5_4 w _ _ _ _ _ _ | exact at5_5 w _ _ _ _ _ _) (by omega) (by omega) (by omega) (by omega)
        | exact NewK.cut (at5_4 w _ _ _ _ _ _) (below5 w _ _ _ _ _) (at5_1 w _ _ _ _ _ _) (by first | exact at5_2 w _ _ _ _ _ _ | exact at5_3 w _ _ _ _ _ _ | exact at5_4 w _ _ _ _ _ _ | exact at5_5 w _ _ _ _ _ _) (by first | exact at5_2 w _ _ _ _ _ _ | exact at5_3 w _ _ _ _ _ _ | exact at5_4 w _ _ _ _ _ _ | exact at5_5 w _ _ _ _ _ _) (by first | exact at5_2 w _ _ _ _ _ _ | exact at5_3 w _ _ _ _ _ _ | exact at5_4 w _ _ _ _ _ _ | exact at5_5 w _ _ _ _ _ _) (by omega) (by omega) (by omega) (by omega)
        | exact NewK.cut (at5_3 w _ _ _ _ _ _) (below5 w _ _ _ _ _) (at5_1 w _ _ _ _ _ _) (by first | exact at5_2 w _ _ _ _ _ _ | exact at5_3 w _ _ _ _ _ _ | exact at5_4 w _ _ _ _ _ _ | exact at5_5 w _ _ _ _ _ _) (by first | exact at5_2 w _ _ _ _ _ _ | exact at5_3 w _ _ _ _ _ _ | exact at5_4 w _ _ _ _ _ _ | exact at5_5 w _ _ _ _ _ _) (by first | exact at5_2 w _ _ _ _ _ _ | exact at5_3 w _ _ _ _ _ _ | exact at5_4 w _ _ _ _ _ _ | exact at5_5 w _ _ _ _ _ _) (by omega) (by omega) (by omega) (by omega)
        | exact NewK.cut (at5_2 w _ _ _ _ _ _) (below5 w _ _ _ _ _) (at5_1 w _ _ _ _ _ _) (by first | exact at5_2 w _ _ _ _ _ _ | exact at5_3 w _ _ _ _ _ _ | exact at5_4 w _ _ _ _ _ _ | exact at5_5 w _ _ _ _ _ _) (by first | exact at5_2 w _ _ _ _ _ _ | exact at5_3 w _ _ _ _ _ _ | exact at5_4 w _ _ _ _ _ _ | exact at5_5 w _ _ _ _ _ _) (by first | exact at5_2 w _ _ _ _ _ _ | exact at5_3 w _ _ _ _ _ _ | exact at5_4 w _ _ _ _ _ _ | exact at5_5 w _ _ _ _ _ _) (by omega) (by omega) (by omega) (by omega)
  case rest =>
    obtain ⟨g, g1, g2, g3, rfl, hN⟩ := hcut
    go_wp2
    go_loopw [2] (fun i wr => Cnt 4 i fun k => ∃ V es, NewR w wr g g1 g2 g3 k V es) (fun i _ => 4 - (intOf i).toNat)
    case atStart => exact ⟨0, Nat.zero_le _, rfl, _, [], ⟨hN, rfl, World.ownsRow_nil _ _ _ _, by simp, List.Pairwise.nil⟩⟩
    case round =>
      obtain ⟨k, hk, rfl, V, es, hR⟩ := hrel
      have c0 := hR.nk.blk.cell 0
      have c1 := hR.nk.blk.cell 1
      have c2 := hR.nk.blk.cell 2
      have c3 := hR.nk.blk.cell 3
      have c4 := hR.nk.blk.cell 4
      have f4 := hR.nk.blk.frozen 4
      simp at c0 c1 c2 c3 c4
      have hg0 := hR.nk.blk.lt
      have hg1 : g < wr.heap.size + 1 := by omega
      have HR := Lib.hid hR
      have hU := Try.underlying33
      clear hR hN
      by_cases hlt : k < 4
      · go_wp2_with fail
        go_region_law
          (first
            | (refine step_append_lies _ (by rfl) _ _ _ (by rfl) w.heap.size 51 i0 _ 2 32 hU hi0 hz0 hz1 hz2 rfl (by omega) V k (pcs 0 es) (by rfl) ?own ⟨wr.heap.size + 1, 0, none⟩ 1 1 [.bool ((k : Int) == 0), sl wr.heap.size 6] (by rfl) (by rfl) ?new ?one (by omega) ?len ?byt ?bas (wr.heap.size + 1 + 1) ?siz ?_
               case own => exact ((HR.out.own.alloc _).alloc _).drew
               case new => exact World.news_of_block (fr := (0, 0)) (B := wr.heap.size + 1) (t := 51) (cs := #[.bool ((k : Int) == 0), sl wr.heap.size 6]) (Blk.new' (by simp))
               case one => (intro u hu; simp [sl] at hu; rcases hu with rfl | rfl <;> rfl)
               case len => (simp [maxLen]; omega)
               case byt => omega
               case bas => (have := HR.out.nk.below.size; simp; omega)
               case siz => simp
               intro gq cap w1 hown1 hgrow hat hlt1
               have kb := HR.out.hold (((Below.refl _ _).alloc (Nat.le_refl _) _).alloc (by simp) _).drew hgrow
               have k4 := kb.cell 4
               have kf := kb.frozen 4
               simp at k4
               have KB := Lib.hid kb
               clear kb))
        all_goals
          go_wp2
          have hN2 := HR.out.next (((Below.refl _ _).alloc (Nat.le_refl _) _).alloc (by simp) _).drew ((Blk.new' rfl).alloc _).drew hown1 hgrow
          go_roundw
          case rel => exact ⟨k + 1, by omega, by go_num, _, _, hN2⟩
          case measure => simp [intOf]; omega
      · obtain rfl : k = 4 := by omega
        have b0 := HR.out.nk.b0
        have d0 := b0.cell 0
        have d1 := b0.cell 1
        have d2 := b0.cell 2
        have d3 := b0.cell 3
        have d4 := b0.cell 4
        have e0 := b0.frozen 0
        have e1 := b0.frozen 1
        have e2 := b0.frozen 2
        have e3 := b0.frozen 3
        have e4 := b0.frozen 4
        simp at d0 d1 d2 d3 d4
        obtain ⟨A4, k4, rfl⟩ := own_slice HR.out.own
        simp only [sl] at c1 c2 c3
        clear b0
        have hz := HR.out.nk.below.size
        have hlo := HR.out.nk.lo
        go_wp2
        refine bodyPost_ret (v := .agg #[.slice none 0 0, sl g1 1024, sl g2 8, sl g3 6, .slice A4 4 k4]) ?_ rfl ⟨_, _, _, _, _, rfl, HR.out.fin _ _ _ _ _, HR.out.len⟩
        simp [results, Try.results12, go_sem, sl, d0, d1, d2, d3, d4]
end Go.Proofs.Ytdjamdbamkhblaa
