/- kern.Do: what its walks share. No condition. wp_region_inv for a region with an order of one compiler's alone (an edge that does not bind): what binds waits for earlier operations. No condition. The drawn region of kern.Do in which a process acts. No condition. By an AI agent (xdo.py). -/
import Derived.Test.YtdjamdbamkhblacDoorKBy0
import Derived.Test.YtdjamdbamkhblacDoorKernCopyW
import Derived.Test.YtdjamdbamkhblacDoorG03
import Derived.Test.YtdjamdbamkhblacDoorG07
namespace Go.Proofs.YtdjamdbamkhblacDoor
open Go.RowKit
set_option linter.unusedVariables false
set_option linter.unusedSimpArgs false
theorem ModRows.base {w : World} {B B' : Nat} (hB : B ≤ B') : ∀ {l : List Mod} {ms : List (Value × Value)}, ModRows w B' l ms → ModRows w B l ms
 | [], [], _ => trivial
 | _ :: _, _ :: _, h => ⟨⟨own_base h.1.1 hB, own_base h.1.2 hB⟩, ModRows.base hB h.2⟩
 | [], _ :: _, h => h.elim
 | _ :: _, [], h => h.elim
theorem PrcRows.base {w : World} {B B' : Nat} (hB : B ≤ B') : ∀ {l : List Prc} {es : List Value}, PrcRows w B' l es → PrcRows w B l es
 | [], [], _ => trivial
 | _ :: _, _ :: _, h => ⟨own_base h.1 hB, PrcRows.base hB h.2⟩
 | [], _ :: _, h => h.elim
 | _ :: _, [], h => h.elim
theorem Copied.base {w : World} {B B' : Nat} {V0 V1 V2 V3 V4 : Value} {k : Krn} {ms : List (Value × Value)} {es : List Value} (h : Copied w B' V0 V1 V2 V3 V4 k ms es) (hB : B ≤ B') : Copied w B V0 V1 V2 V3 V4 k ms es :=
 ⟨own_base h.mods hB, h.rows.base hB, own_base h.mem hB, own_base h.nodes hB, own_base h.pipes hB, own_base h.procs hB, h.ends.base hB, h.apart, h.each⟩
def DoPost (w : World) (k : Krn) (x : Akt) (e : Ending) (w' : World) : Prop :=
 Below w.heap.size w w' ∧
 ((doE k x ≠ 0 ∧ e = .returned (.tuple #[.agg #[.slice none 0 0, .slice none 0 0, .slice none 0 0, .slice none 0 0, .slice none 0 0], .agg #[.int .i64 0, .int .i64 0, .string ⟨#[]⟩], .int .i64 (doE k x)])) ∨
  (doE k x = 0 ∧ ∃ (a' : KA) (ms : List (Value × Value)) (es : List Value), e = .returned (.tuple #[.agg (a'.cells (doK k x).1), .agg #[.int .i64 (doK k x).2.code, .int .i64 (doK k x).2.n, .string (doK k x).2.data], .int .i64 0]) ∧
    Copied w' w.heap.size (.slice a'.a0 (doK k x).1.mods.length a'.c0) (.slice a'.a1 (doK k x).1.mem.length a'.c1) (.slice a'.a2 (doK k x).1.nodes.length a'.c2) (.slice a'.a3 (doK k x).1.pipes.length a'.c3) (.slice a'.a4 (doK k x).1.procs.length a'.c4) (doK k x).1 ms es ∧ (doK k x).1.fits))
structure DoAt (w W : World) (a : KA) (k : Krn) (ms : List (Value × Value)) (es : List Value) (cs : Array Value) (bw bo : Nat) (u0 u1 : Int) (s : ByteArray) : Prop where
 ks : KS w.heap.size W w.heap.size a k ms es
 fr : Below w.heap.size w W
 ac : Blk W (w.heap.size + 1) 26 cs
 rk : ∃ c5, Blk W (w.heap.size + 2) 36 c5 ∧ c5.size = 5
 ra : Blk W (w.heap.size + 3) 41 #[.int .i64 0, .int .i64 0, .string ⟨#[]⟩]
 wk : Blk W bw 138 #[.pointer (some ⟨w.heap.size, 0, none⟩)]
 ot : Blk W bo 41 #[.int .i64 u0, .int .i64 u1, .string s]
 bo3 : w.heap.size + 3 < bo
section
variable {w W W' : World} {a a' : KA} {k k' : Krn} {ms ms' : List (Value × Value)} {es es' : List Value} {cs : Array Value} {bw bo : Nat} {u0 u1 v0 v1 : Int} {s t : ByteArray}
theorem DoAt.next (h : DoAt w W a k ms es cs bw bo u0 u1 s) (hk : KS w.heap.size W' w.heap.size a' k' ms' es') (hf : Fr w.heap.size W W') : DoAt w W' a' k' ms' es' cs bw bo u0 u1 s := by
 obtain ⟨c5, h1, e1⟩ := h.rk
 obtain ⟨c6, h2, e2⟩ := hf.shape _ c5 h1
 exact ⟨hk, h.fr.trans hf.low', hf.blk h.ac (by decide), ⟨c6, h2, e2.trans e1⟩, hf.blk h.ra (by decide), hf.blk h.wk (by decide), hf.blk h.ot (by decide), h.bo3⟩
theorem DoAt.below (h : DoAt w W a k ms es cs bw bo u0 u1 s) (hb : Below W.heap.size W W') : DoAt w W' a k ms es cs bw bo u0 u1 s :=
 h.next (h.ks.below hb) (Fr.low hb (Nat.le_of_lt h.ks.lt))
theorem DoAt.set_ (h : DoAt w W a k ms es cs bw bo u0 u1 s) (i : Nat) (u : Value) (he : (#[.int .i64 u0, .int .i64 u1, .string s] : Array Value).setIfInBounds i u = #[.int .i64 v0, .int .i64 v1, .string t]) :
  DoAt w (W.setCell ⟨bo, i, none⟩ u) a k ms es cs bw bo v0 v1 t := by
 obtain ⟨c5, h1, e1⟩ := h.rk
 have ht := Tch.of_set (p := ⟨bo, i, none⟩) h.ot u
 refine ⟨h.ks.ans h.ot u, h.fr.setCell (p := ⟨bo, i, none⟩) (by have := h.bo3; show _ ≤ bo; omega) u, h.ac.tch ht (by decide), ⟨c5, h1.tch ht (by decide), e1⟩, h.ra.far (p := ⟨bo, i, none⟩) (by have := h.bo3; show _ ≠ bo; omega) u, h.wk.tch ht (by decide), ?_, h.bo3⟩
 have := h.ot.set_ i u
 rw [he] at this
 exact this
theorem DoAt.start {W0 W1 : World} {A0 A1 A2 A3 A4 : Option Addr} {c0 c1 c2 c3 c4 : Nat} {zk : Array Value} (hz : zk.size = 5)
  (hW0 : W0 = (((w.alloc (.cells (a.cells k) 36)).alloc (.cells cs 26)).alloc (.cells zk 36)).alloc (.cells #[.int .i64 0, .int .i64 0, .string ⟨#[]⟩] 41))
  (hb : Below W0.heap.size W0 W1) (hC : Copied W1 W0.heap.size (.slice A0 k.mods.length c0) (.slice A1 k.mem.length c1) (.slice A2 k.nodes.length c2) (.slice A3 k.pipes.length c3) (.slice A4 k.procs.length c4) k ms es) (hf : k.fits) :
  DoAt w ((((lay5 W1 w.heap.size (.slice A0 k.mods.length c0) (.slice A1 k.mem.length c1) (.slice A2 k.nodes.length c2) (.slice A3 k.pipes.length c3) (.slice A4 k.procs.length c4))).alloc (.cells #[.pointer (some ⟨w.heap.size, 0, none⟩)] 138)).alloc (.cells #[.int .i64 0, .int .i64 0, .string ⟨#[]⟩] 41))
   ⟨A0, c0, A1, c1, A2, c2, A3, c3, A4, c4⟩ k ms es cs W1.heap.size (W1.heap.size + 1) 0 0 ⟨#[]⟩ := by
 have hn : W0.heap.size = w.heap.size + 4 := by rw [hW0]; simp
 have hn1 := hb.size
 have b0 : Blk W0 w.heap.size 36 (a.cells k) := by rw [hW0]; exact (((Blk.new w _ _).alloc _).alloc _).alloc _
 have b1 : Blk W0 (w.heap.size + 1) 26 cs := by rw [hW0]; exact ((Blk.new' (by simp)).alloc _).alloc _
 have b2 : Blk W0 (w.heap.size + 2) 36 zk := by rw [hW0]; exact (Blk.new' (by simp)).alloc _
 have b3 : Blk W0 (w.heap.size + 3) 41 #[.int .i64 0, .int .i64 0, .string ⟨#[]⟩] := by rw [hW0]; exact Blk.new' (by simp)
 have hb0 : Below w.heap.size w W0 := by
  rw [hW0]
  exact ((((Below.refl w.heap.size w).alloc (Nat.le_refl _) _).alloc (by simp) _).alloc (by simp; omega) _).alloc (by simp; omega) _
 have e0 : (a.cells k).size = 5 := rfl
 have k0 := (b0.below hb b0.lt).lay5 e0 (.slice A0 k.mods.length c0) (.slice A1 k.mem.length c1) (.slice A2 k.nodes.length c2) (.slice A3 k.pipes.length c3) (.slice A4 k.procs.length c4)
 obtain ⟨WL, hWL⟩ : ∃ WL, WL = lay5 W1 w.heap.size (.slice A0 k.mods.length c0) (.slice A1 k.mem.length c1) (.slice A2 k.nodes.length c2) (.slice A3 k.pipes.length c3) (.slice A4 k.procs.length c4) := ⟨_, rfl⟩
 have hs : WL.heap.size = W1.heap.size := by rw [hWL]; simp [lay5]
 have hfar : ∀ q, q ≠ w.heap.size → WL.heap[q]? = W1.heap[q]? := fun q hq => by rw [hWL]; exact lay5_far _ _ _ _ _ _ _ q hq
 have hbl : Below w.heap.size w WL := by rw [hWL]; exact lay5_below (hb0.trans (hb.mono (by omega))) _ _ _ _ _
 have ht : Tch 36 W1 WL := by
  have g := lay5_grown W1 w.heap.size (.slice A0 k.mods.length c0) (.slice A1 k.mem.length c1) (.slice A2 k.nodes.length c2) (.slice A3 k.pipes.length c3) (.slice A4 k.procs.length c4)
  rw [← hWL] at g
  exact ⟨g.os, g.tape, g.output, g.size, fun q hq hne => g.block q hq fun e => by
   injection e with e
   subst e
   exact hne _ _ (b0.below hb b0.lt)⟩
 rw [← hWL] at k0 ⊢
 have C1 := (hC.tch ht (by decide) (by decide) (by decide) (by decide) (by decide) (by decide) (by decide)).base (B := w.heap.size) (by omega)
 have f2 := (Below.refl WL.heap.size WL).alloc (Nat.le_refl _) (.cells #[.pointer (some ⟨w.heap.size, 0, none⟩)] 138)
 have f3 := f2.alloc f2.size (.cells #[.int .i64 0, .int .i64 0, .string ⟨#[]⟩] 41)
 have bL1 := (b1.below hb b1.lt).tch ht (by decide)
 have bL2 : Blk WL (w.heap.size + 2) 36 zk := (hfar _ (by omega)).trans (b2.below hb b2.lt)
 have bL3 := (b3.below hb b3.lt).tch ht (by decide)
 have KSL : KS w.heap.size WL w.heap.size ⟨A0, c0, A1, c1, A2, c2, A3, c3, A4, c4⟩ k ms es := ⟨Nat.le_refl _, k0, C1, hf⟩
 refine ⟨KSL.below f3, hbl.trans (f3.mono (by omega)), bL1.below f3 bL1.lt, ⟨zk, bL2.below f3 bL2.lt, hz⟩, bL3.below f3 bL3.lt, ?_, ?_, by omega⟩
 ·rw [← hs]
  exact (Blk.new WL _ _).alloc _
 ·rw [← hs]
  exact Blk.new' (by simp)
end
end Go.Proofs.YtdjamdbamkhblacDoor
namespace Go.Proofs.YtdjamdbamkhblacDoor
open Go.RowKit
section
variable {P : Program} {ops : Array Oper} {Q : Exit → Act → World → Prop} {md : Region.Mode}
theorem ready_allB {listed : Array Bool} (hord : ∀ (i : Nat) (o : Oper), ops[i]? = some o → ∀ e ∈ o.after, Region.binds md e = true → e.on < i) (h : Region.ready md ops listed = []) : ∀ i, i < ops.size → listed.getD i true = true := by
 intro i
 induction i using Nat.strongRecOn with
 | ind i ih =>
   intro hi
   cases hl : listed.getD i true with
   | true => rfl
   | false =>
     exfalso
     have : i ∈ Region.ready md ops listed := by
      unfold Region.ready
      refine List.mem_filter.2 ⟨List.mem_range.2 hi, ?_⟩
      obtain ⟨o, ho⟩ : ∃ o, ops[i]? = some o := ⟨_, Array.getElem?_eq_getElem hi⟩
      rw [hl, ho]
      simp only [Bool.not_false, Bool.true_and, Option.map_some, Option.getD_some]
      rw [Array.all_eq_true_iff_forall_mem]
      intro e he
      cases hbd : Region.binds md e with
      | false => simp
      | true =>
      have h1 := hord i o ho e he hbd
      have h2 := ih e.on h1 (by omega)
      have h3 : listed.getD e.on false = true := by
       rw [Array.getD_eq_getD_getElem?] at h2 ⊢
       cases hx : listed[e.on]? with
       | none =>
         exfalso
         rw [Array.getD_eq_getD_getElem?] at hl
         cases hy : listed[i]? with
         | none => rw [hy] at hl; simp at hl
         | some b =>
           have := (Array.getElem?_eq_some_iff.1 hy).1
           have := Array.getElem?_eq_none_iff.1 hx
           omega
       | some b => rw [hx] at h2; simpa using h2
      rw [h3]; simp
     rw [h] at this
     cases this
theorem wpAny_invB (I : Array Bool → Act → World → Prop) (hord : ∀ (i : Nat) (o : Oper), ops[i]? = some o → ∀ e ∈ o.after, Region.binds md e = true → e.on < i)
  (hstep : ∀ (i : Nat) (o : Oper), ops[i]? = some o → ∀ listed a w, listed.getD i true = false → (o.after.all fun e => !Region.binds md e || listed.getD e.on false) = true → I listed a w →
    ∀ K : Act → World → Prop, (∀ a w, I (listed.setIfInBounds i true) a w → K a w) → if Region.wanted o (yielded ops a.tmps) = true then Oper.wp P o a w K Q else K (a.put o.dst undef) w)
  (hend : ∀ listed a w, (∀ i, i < ops.size → listed.getD i true = true) → I listed a w → Q .normal a w) :
  ∀ (fuel : Nat) (listed : Array Bool) (a : Act) (w : World), unlisted listed ≤ fuel → I listed a w → wpAny P md ops Q fuel listed a w := by
 intro fuel
 induction fuel with
 | zero =>
   intro listed a w hu hI
   have hr : Region.ready md ops listed = [] := by
    cases hr : Region.ready md ops listed with
    | nil => rfl
    | cons i r =>
      obtain ⟨o, ho, h1, h2⟩ := ready_mem (md := md) (ops := ops) (listed := listed) (i := i) (by rw [hr]; simp)
      have := unlisted_set h1
      omega
   exact ⟨hr, hend _ _ _ (ready_allB hord hr) hI⟩
 | succ fuel ih =>
   intro listed a w hu hI
   refine ⟨fun hr => hend _ _ _ (ready_allB hord hr) hI, fun i hi => ?_⟩
   obtain ⟨o, ho, h1, h2⟩ := ready_mem hi
   refine wpOp_step ho fun K' hK' => ?_
   refine hstep i o ho listed a w h1 h2 hI K' fun a' w' hI' => hK' _ _ (ih _ _ _ ?_ hI')
   have := unlisted_set h1
   omega
theorem wp_region_invB {id : Nat} {a : Act} {w : World} (I : Array Bool → Act → World → Prop) (hm : P.follows .mixedOrders = true) (hord : ∀ (i : Nat) (o : Oper), ops[i]? = some o → ∀ e ∈ o.after, Region.binds .any e = true → e.on < i)
  (h0 : I (Array.replicate ops.size false) a w.drew)
  (hstep : ∀ (i : Nat) (o : Oper), ops[i]? = some o → ∀ listed a w, listed.getD i true = false → (o.after.all fun e => !Region.binds .any e || listed.getD e.on false) = true → I listed a w →
    ∀ K : Act → World → Prop, (∀ a w, I (listed.setIfInBounds i true) a w → K a w) → if Region.wanted o (yielded ops a.tmps) = true then Oper.wp P o a w K Q else K (a.put o.dst undef) w)
  (hend : ∀ listed a w, (∀ i, i < ops.size → listed.getD i true = true) → I listed a w → Q .normal a w) : (Code.region id ops true).wp P Q a w :=
 wp_region_any hm (wpAny_invB I hord hstep hend _ _ _ _ (unlisted_none _) h0)
def ordBB (ops : Array Oper) : Bool := (List.range ops.size).all fun i => match ops[i]? with
 | some o => o.after.all fun e => !Region.binds .any e || decide (e.on < i)
 | none => true
theorem ord_ofB (h : ordBB ops = true) : ∀ (i : Nat) (o : Oper), ops[i]? = some o → ∀ e ∈ o.after, Region.binds .any e = true → e.on < i := fun i o ho e he hb => by
 have hi : i < ops.size := (Array.getElem?_eq_some_iff.1 ho).1
 have := (List.all_eq_true.1 h) i (List.mem_range.2 hi)
 rw [ho] at this
 have := (Array.all_eq_true_iff_forall_mem.1 this) e he
 rw [hb] at this
 simpa using this
end
end Go.Proofs.YtdjamdbamkhblacDoor
namespace Go.Proofs.YtdjamdbamkhblacDoor
open Go.RowKit
set_option linter.unusedVariables false
set_option linter.unusedSimpArgs false
structure DoJ (w0 : World) (B bw g b4 c4 ba bo p : Nat) (ms : List (Value × Value)) (r : Krn × Ans) (x0 x2 x3 : Int) (x4 x5 : ByteArray) (t0t t1t t2t t3t t4t t5t t6t t7t t8t : Bool) (W : World) (y53 y54 y55 y56 y57 y58 y59 y60 : Value) : Prop where
 f0 : t0t = true → y53 = .agg #[.pointer (some ⟨g, 0, none⟩)]
 f1 : t1t = true → y54 = .pointer (some ⟨g, 4, none⟩)
 f2 : t2t = true → y55 = .slice (some ⟨b4, 0, none⟩) 4 c4
 f3 : t3t = true → y56 = .pointer (some ⟨ba, 1, none⟩)
 f4 : t4t = true → y57 = .int .i64 (p : Int)
 f5 : t5t = true → y58 = .pointer (some ⟨b4, p * 2, none⟩)
 f6 : t6t = true → y59 = .agg #[.int .i64 x0, .int .i64 (p : Int), .int .i64 x2, .int .i64 x3, .string x4, .string x5]
 f7 : t7t = true → y60 = .agg #[.int .i64 r.2.code, .int .i64 r.2.n, .string r.2.data]
 f8 : t8t = true → ∃ W1, (Fr B w0 W1 ∧ ∃ a' es', KS B W1 g a' r.1 ms es') ∧ W = ((W1.setCell ⟨bo, 0, none⟩ (.int .i64 r.2.code)).setCell ⟨bo, 1, none⟩ (.int .i64 r.2.n)).setCell ⟨bo, 2, none⟩ (.string r.2.data)
 q7_0 : t7t = true → t0t = true
 q7_2 : t7t = true → t2t = true
 q7_4 : t7t = true → t4t = true
 q7_6 : t7t = true → t6t = true
 q5_2 : t5t = true → t2t = true
 q5_4 : t5t = true → t4t = true
 q8_7 : t8t = true → t7t = true
 w : (t7t = false → W = w0) ∧ (t7t = true → t8t = false → (Fr B w0 W ∧ ∃ a' es', KS B W g a' r.1 ms es'))
noncomputable def doByC : Code := ((Tryd.f40.body.bind (regAt 12)).getD .skip)
set_option maxRecDepth 1000000 in
set_option maxHeartbeats 8000000 in
theorem doBy (w0 : World) (B bw g b4 c4 ba bo p : Nat) (ms : List (Value × Value)) (r : Krn × Ans) (x0 x2 x3 : Int) (x4 x5 : ByteArray) {v0 v1 v4 v5 v6 v7 v10 v11 v12 v13 v14 v15 v16 v17 v18 v19 v20 v21 v22 v23 v24 v25 v26 v27 v28 v29 v30 v31 v32 v33 v34 v35 v36 v37 v38 v39 v40 v41 v42 v43 v44 v45 v46 v47 v48 v49 v50 v51 v52 v53 v54 v55 v56 v57 v58 v59 v60 v61 v62 v63 v64 v65 v66 v67 v68 v69 v70 v71 v72 v73 v74 v75 v76 v77 v78 v79 v80 v81 v82 v83 v84 v85 v86 v87 v88 v89 v90 v91 v92 v93 v94 v95 v96 v97 v98 v99 v100 v101 v102 v103 v104 v105 v106 v107 v108 v109 v110 v111 v112 v113 v114 v115 v116 v117 v118 v119 v120 : Value} (wr : World) (Q : Exit → Act → World → Prop) (hw00 : wr.drew = w0) (hlw : bw < w0.heap.size) (hw0 : w0.cell? ⟨bw, 0, none⟩ = some (.pointer (some ⟨g, 0, none⟩))) (hlg : g < w0.heap.size) (hg4 : w0.cell? ⟨g, 4, none⟩ = some (.slice (some ⟨b4, 0, none⟩) 4 c4)) (hla : ba < w0.heap.size) (ha0 : w0.cell? ⟨ba, 0, none⟩ = some (.int .i64 x0)) (ha1 : w0.cell? ⟨ba, 1, none⟩ = some (.int .i64 (p : Int))) (ha2 : w0.cell? ⟨ba, 2, none⟩ = some (.int .i64 x2)) (ha3 : w0.cell? ⟨ba, 3, none⟩ = some (.int .i64 x3)) (ha4 : w0.cell? ⟨ba, 4, none⟩ = some (.string x4)) (ha5 : w0.cell? ⟨ba, 5, none⟩ = some (.string x5)) (hbo : Blk w0 bo 41 #[.int .i64 0, .int .i64 0, .string ⟨#[]⟩]) (hp : p < 4) (hcall : Calls Tryd.prog 81 #[.agg #[.pointer (some ⟨g, 0, none⟩)], .pointer (some ⟨b4, p * 2, none⟩), .agg #[.int .i64 x0, .int .i64 (p : Int), .int .i64 x2, .int .i64 x3, .string x4, .string x5]] w0 (ByPost B w0 g ms r))
  (hQ : ∀ (listed : Array Bool) (W : World) (y53 y54 y55 y56 y57 y58 y59 y60 : Value), (∀ i, i < 9 → listed.getD i true = true) → DoJ w0 B bw g b4 c4 ba bo p ms r x0 x2 x3 x4 x5 (listed.getD 0 true) (listed.getD 1 true) (listed.getD 2 true) (listed.getD 3 true) (listed.getD 4 true) (listed.getD 5 true) (listed.getD 6 true) (listed.getD 7 true) (listed.getD 8 true) W y53 y54 y55 y56 y57 y58 y59 y60 → Q .normal ⟨#[v0, v1, .pointer (some ⟨g, 0, none⟩), .pointer (some ⟨ba, 0, none⟩), v4, v5, v6, v7, .pointer (some ⟨bw, 0, none⟩), .pointer (some ⟨bo, 0, none⟩), v10, v11, v12, v13, v14, v15, v16, v17, v18, v19, v20, v21, v22, v23, v24, v25, v26, v27, v28, v29, v30, v31, v32, v33, v34, v35, v36, v37, v38, v39, v40, v41, v42, v43, v44, v45, v46, v47, v48, v49, v50, v51, v52, y53, y54, y55, y56, y57, y58, y59, y60, v61, v62, v63, v64, v65, v66, v67, v68, v69, v70, v71, v72, v73, v74, v75, v76, v77, v78, v79, v80, v81, v82, v83, v84, v85, v86, v87, v88, v89, v90, v91, v92, v93, v94, v95, v96, v97, v98, v99, v100, v101, v102, v103, v104, v105, v106, v107, v108, v109, v110, v111, v112, v113, v114, v115, v116, v117, v118, v119, v120], []⟩ W) :
  Code.wp Tryd.prog doByC Q ⟨#[v0, v1, .pointer (some ⟨g, 0, none⟩), .pointer (some ⟨ba, 0, none⟩), v4, v5, v6, v7, .pointer (some ⟨bw, 0, none⟩), .pointer (some ⟨bo, 0, none⟩), v10, v11, v12, v13, v14, v15, v16, v17, v18, v19, v20, v21, v22, v23, v24, v25, v26, v27, v28, v29, v30, v31, v32, v33, v34, v35, v36, v37, v38, v39, v40, v41, v42, v43, v44, v45, v46, v47, v48, v49, v50, v51, v52, v53, v54, v55, v56, v57, v58, v59, v60, v61, v62, v63, v64, v65, v66, v67, v68, v69, v70, v71, v72, v73, v74, v75, v76, v77, v78, v79, v80, v81, v82, v83, v84, v85, v86, v87, v88, v89, v90, v91, v92, v93, v94, v95, v96, v97, v98, v99, v100, v101, v102, v103, v104, v105, v106, v107, v108, v109, v110, v111, v112, v113, v114, v115, v116, v117, v118, v119, v120], []⟩ wr := by
 have HQ := Lib.hid hQ
 clear hQ
 conv => arg 2; whnf
 refine wp_region_invB (fun listed a W => ∃ y53 y54 y55 y56 y57 y58 y59 y60, DoJ w0 B bw g b4 c4 ba bo p ms r x0 x2 x3 x4 x5 (listed.getD 0 true) (listed.getD 1 true) (listed.getD 2 true) (listed.getD 3 true) (listed.getD 4 true) (listed.getD 5 true) (listed.getD 6 true) (listed.getD 7 true) (listed.getD 8 true) W y53 y54 y55 y56 y57 y58 y59 y60 ∧ a = ⟨#[v0, v1, .pointer (some ⟨g, 0, none⟩), .pointer (some ⟨ba, 0, none⟩), v4, v5, v6, v7, .pointer (some ⟨bw, 0, none⟩), .pointer (some ⟨bo, 0, none⟩), v10, v11, v12, v13, v14, v15, v16, v17, v18, v19, v20, v21, v22, v23, v24, v25, v26, v27, v28, v29, v30, v31, v32, v33, v34, v35, v36, v37, v38, v39, v40, v41, v42, v43, v44, v45, v46, v47, v48, v49, v50, v51, v52, y53, y54, y55, y56, y57, y58, y59, y60, v61, v62, v63, v64, v65, v66, v67, v68, v69, v70, v71, v72, v73, v74, v75, v76, v77, v78, v79, v80, v81, v82, v83, v84, v85, v86, v87, v88, v89, v90, v91, v92, v93, v94, v95, v96, v97, v98, v99, v100, v101, v102, v103, v104, v105, v106, v107, v108, v109, v110, v111, v112, v113, v114, v115, v116, v117, v118, v119, v120], []⟩) (by kernel_rfl) (ord_ofB (by kernel_rfl)) ?start ?step ?fin
 case start =>
  refine ⟨_, _, _, _, _, _, _, _, ?_, rfl⟩
  constructor
  all_goals first | exact ⟨fun _ => hw00, fun h => absurd h (by decide)⟩ | exact fun _ => rfl | exact fun h => absurd h (by decide)
 case step =>
  intro i o ho listed a W hl haf hI K hK
  obtain ⟨y53, y54, y55, y56, y57, y58, y59, y60, hJ, rfl⟩ := hI
  have hK := fun (W' : World) z53 z54 z55 z56 z57 z58 z59 z60 h => hK _ W' ⟨z53, z54, z55, z56, z57, z58, z59, z60, h, rfl⟩
  simp only [listed_set] at hK
  have hi : i < 9 := (Array.getElem?_eq_some_iff.1 ho).1
  have h16 : i = 0 ∨ i = 1 ∨ i = 2 ∨ i = 3 ∨ i = 4 ∨ i = 5 ∨ i = 6 ∨ i = 7 ∨ i = 8 := by omega
  rcases h16 with rfl | rfl | rfl | rfl | rfl | rfl | rfl | rfl | rfl
  all_goals
   have ho := Option.some.inj ho
   subst ho
   try simp [Region.binds] at haf
  ·
    have h7 := nlR hJ.q7_0 hl
    obtain rfl : W = w0 := hJ.w.1 h7
    go_simp
    apply hK; exact { hJ with f0 := fun _ => rfl, q7_0 := fun _ => rfl, w := ⟨fun h => hJ.w.1 h, fun h h' => hJ.w.2 h h'⟩ }
  ·
    go_simp
    apply hK; exact { hJ with f1 := fun _ => rfl, w := ⟨fun h => hJ.w.1 h, fun h h' => hJ.w.2 h h'⟩ }
  ·
    obtain rfl := hJ.f1 (waitsR (by simp [haf]))
    have h7 := nlR hJ.q7_2 hl
    obtain rfl : W = w0 := hJ.w.1 h7
    go_simp
    apply hK; exact { hJ with f2 := fun _ => rfl, q7_2 := fun _ => rfl, q5_2 := fun _ => rfl, w := ⟨fun h => hJ.w.1 h, fun h h' => hJ.w.2 h h'⟩ }
  ·
    go_simp
    apply hK; exact { hJ with f3 := fun _ => rfl, w := ⟨fun h => hJ.w.1 h, fun h h' => hJ.w.2 h h'⟩ }
  ·
    obtain rfl := hJ.f3 (waitsR (by simp [haf]))
    have h7 := nlR hJ.q7_4 hl
    obtain rfl : W = w0 := hJ.w.1 h7
    go_simp
    apply hK; exact { hJ with f4 := fun _ => rfl, q7_4 := fun _ => rfl, q5_4 := fun _ => rfl, w := ⟨fun h => hJ.w.1 h, fun h h' => hJ.w.2 h h'⟩ }
  ·
    have p2 : listed.getD 2 true = true := waitsR (by simp [haf])
    have p4 : listed.getD 4 true = true := waitsR (by simp [haf])
    obtain rfl := hJ.f2 p2
    obtain rfl := hJ.f4 p4
    have hp4 : (p : Int) < 4 := by omega
    go_simp
    apply hK; exact { hJ with f5 := fun _ => rfl, q5_2 := fun _ => p2, q5_4 := fun _ => p4, w := ⟨fun h => hJ.w.1 h, fun h h' => hJ.w.2 h h'⟩ }
  ·
    have h7 := nlR hJ.q7_6 hl
    obtain rfl : W = w0 := hJ.w.1 h7
    go_simp
    apply hK; exact { hJ with f6 := fun _ => rfl, q7_6 := fun _ => rfl, w := ⟨fun h => hJ.w.1 h, fun h h' => hJ.w.2 h h'⟩ }
  ·
    have p0 : listed.getD 0 true = true := waitsR (by simp [haf])
    have p5 : listed.getD 5 true = true := waitsR (by simp [haf])
    have p6 : listed.getD 6 true = true := waitsR (by simp [haf])
    obtain rfl := hJ.f0 p0
    obtain rfl := hJ.f5 p5
    obtain rfl := hJ.f6 p6
    obtain rfl : W = w0 := hJ.w.1 hl
    have p2 := hJ.q5_2 p5
    have p4 := hJ.q5_4 p5
    go_simp
    go_at_call 81
    refine hcall.mono ?_
    rintro e' w2 ⟨rfl, hF, a', es', hKS⟩
    apply hK; exact { hJ with f7 := fun _ => rfl, f8 := fun x => by have e := hJ.q8_7 x; rw [hl] at e; exact absurd e (by decide), q7_0 := fun _ => p0, q7_2 := fun _ => p2, q7_4 := fun _ => p4, q7_6 := fun _ => p6, q8_7 := fun _ => rfl, w := ⟨tfR, fun _ _ => ⟨hF, a', es', hKS⟩⟩ }
  ·
    have p7 : listed.getD 7 true = true := waitsR (by simp [haf])
    obtain rfl := hJ.f7 p7
    obtain ⟨hF, a', es', hKS⟩ := hJ.w.2 p7 hl
    have hbb := hF.blk hbo (by decide)
    have m0 := hbb.cell 0
    have m1 := hbb.cell 1
    have m2 := hbb.cell 2
    have fz0 := hbb.frozen 0
    have fz1 := hbb.frozen 1
    have fz2 := hbb.frozen 2
    have bl := hbb.lt
    simp at m0 m1 m2
    go_simp
    apply hK; exact { hJ with f8 := fun _ => ⟨W, ⟨hF, a', es', hKS⟩, rfl⟩, q8_7 := fun _ => p7, w := ⟨fun h => (tfR (p7.symm.trans h)), fun _ h => tfR h⟩ }
 case fin =>
  intro listed a W hall hI
  obtain ⟨y53, y54, y55, y56, y57, y58, y59, y60, hJ, rfl⟩ := hI
  exact HQ.out listed W _ _ _ _ _ _ _ _ hall hJ
end Go.Proofs.YtdjamdbamkhblacDoor
