/- kern.Do: what its walks share. No condition. A region that draws its order, walked once by an invariant over what has run so far. No condition. Small words for the use of wp_region_inv: no condition. wp_region_inv for a region with an order of one compiler's alone (an edge that does not bind): what binds waits for earlier operations. No condition. -/
import Derived.Test.YtdjamdbamkhblacDoorG12
import Derived.Test.YtdjamdbamkhblacDoorKernCopyW
import Derived.Test.YtdjamdbamkhblacDoorG01
import Derived.RegionTactic
import Derived.Test.YtdjamdbamkhblacDoorG02
namespace Go.Proofs.YtdjamdbamkhblacDoor
open Go.RowKit
set_option linter.unusedVariables false
set_option linter.unusedSimpArgs false
theorem ModRows.base {w : World} {B B' : Nat} (hB : B ≤ B') : ∀ {l : List Mod} {ms : List (Value × Value)}, ModRows w B' l ms → ModRows w B l ms
 | [], [], _ => trivial
 | _ :: _, _ :: _, h => ⟨⟨own_base h.1.1 hB, own_base h.1.2 hB⟩, ModRows.base hB h.2⟩
 | [], _ :: _, h => h.elim
 | _ :: _, [], h => h.elim
theorem PrcRows.base {w : World} {B B' : Nat} (hB : B ≤ B') : ∀ {l : List Prc} {es : List Value}, PrcRows w B' l es → PrcRows w B l es
 | [], [], _ => trivial
 | _ :: _, _ :: _, h => ⟨own_base h.1 hB, PrcRows.base hB h.2⟩
 | [], _ :: _, h => h.elim
 | _ :: _, [], h => h.elim
theorem Copied.base {w : World} {B B' : Nat} {V0 V1 V2 V3 V4 : Value} {k : Krn} {ms : List (Value × Value)} {es : List Value} (h : Copied w B' V0 V1 V2 V3 V4 k ms es) (hB : B ≤ B') : Copied w B V0 V1 V2 V3 V4 k ms es :=
 ⟨own_base h.mods hB, h.rows.base hB, own_base h.mem hB, own_base h.nodes hB, own_base h.pipes hB, own_base h.procs hB, h.ends.base hB, h.apart, h.each⟩
def DoPost (w : World) (k : Krn) (x : Akt) (e : Ending) (w' : World) : Prop :=
 Below w.heap.size w w' ∧
 ((doE k x ≠ 0 ∧ e = .returned (.tuple #[.agg #[.slice none 0 0, .slice none 0 0, .slice none 0 0, .slice none 0 0, .slice none 0 0], .agg #[.int .i64 0, .int .i64 0, .string ⟨#[]⟩], .int .i64 (doE k x)])) ∨
  (doE k x = 0 ∧ ∃ (a' : KA) (ms : List (Value × Value)) (es : List Value), e = .returned (.tuple #[.agg (a'.cells (doK k x).1), .agg #[.int .i64 (doK k x).2.code, .int .i64 (doK k x).2.n, .string (doK k x).2.data], .int .i64 0]) ∧
    Copied w' w.heap.size (.slice a'.a0 (doK k x).1.mods.length a'.c0) (.slice a'.a1 (doK k x).1.mem.length a'.c1) (.slice a'.a2 (doK k x).1.nodes.length a'.c2) (.slice a'.a3 (doK k x).1.pipes.length a'.c3) (.slice a'.a4 (doK k x).1.procs.length a'.c4) (doK k x).1 ms es ∧ (doK k x).1.fits))
structure DoAt (w W : World) (a : KA) (k : Krn) (ms : List (Value × Value)) (es : List Value) (cs : Array Value) (bw bo : Nat) (u0 u1 : Int) (s : ByteArray) : Prop where
 ks : KS w.heap.size W w.heap.size a k ms es
 fr : Below w.heap.size w W
 ac : Blk W (w.heap.size + 1) 26 cs
 rk : ∃ c5, Blk W (w.heap.size + 2) 36 c5 ∧ c5.size = 5
 ra : Blk W (w.heap.size + 3) 41 #[.int .i64 0, .int .i64 0, .string ⟨#[]⟩]
 wk : Blk W bw 138 #[.pointer (some ⟨w.heap.size, 0, none⟩)]
 ot : Blk W bo 41 #[.int .i64 u0, .int .i64 u1, .string s]
 bo3 : w.heap.size + 3 < bo
section
variable {w W W' : World} {a a' : KA} {k k' : Krn} {ms ms' : List (Value × Value)} {es es' : List Value} {cs : Array Value} {bw bo : Nat} {u0 u1 v0 v1 : Int} {s t : ByteArray}
theorem DoAt.next (h : DoAt w W a k ms es cs bw bo u0 u1 s) (hk : KS w.heap.size W' w.heap.size a' k' ms' es') (hf : Fr w.heap.size W W') : DoAt w W' a' k' ms' es' cs bw bo u0 u1 s := by
 obtain ⟨c5, h1, e1⟩ := h.rk
 obtain ⟨c6, h2, e2⟩ := hf.shape _ c5 h1
 exact ⟨hk, h.fr.trans hf.low', hf.blk h.ac (by decide), ⟨c6, h2, e2.trans e1⟩, hf.blk h.ra (by decide), hf.blk h.wk (by decide), hf.blk h.ot (by decide), h.bo3⟩
theorem DoAt.below (h : DoAt w W a k ms es cs bw bo u0 u1 s) (hb : Below W.heap.size W W') : DoAt w W' a k ms es cs bw bo u0 u1 s :=
 h.next (h.ks.below hb) (Fr.low hb (Nat.le_of_lt h.ks.lt))
theorem DoAt.set_ (h : DoAt w W a k ms es cs bw bo u0 u1 s) (i : Nat) (u : Value) (he : (#[.int .i64 u0, .int .i64 u1, .string s] : Array Value).setIfInBounds i u = #[.int .i64 v0, .int .i64 v1, .string t]) :
  DoAt w (W.setCell ⟨bo, i, none⟩ u) a k ms es cs bw bo v0 v1 t := by
 obtain ⟨c5, h1, e1⟩ := h.rk
 have ht := Tch.of_set (p := ⟨bo, i, none⟩) h.ot u
 refine ⟨h.ks.ans h.ot u, h.fr.setCell (p := ⟨bo, i, none⟩) (by have := h.bo3; show _ ≤ bo; omega) u, h.ac.tch ht (by decide), ⟨c5, h1.tch ht (by decide), e1⟩, h.ra.far (p := ⟨bo, i, none⟩) (by have := h.bo3; show _ ≠ bo; omega) u, h.wk.tch ht (by decide), ?_, h.bo3⟩
 have := h.ot.set_ i u
 rw [he] at this
 exact this
theorem DoAt.start {W0 W1 : World} {A0 A1 A2 A3 A4 : Option Addr} {c0 c1 c2 c3 c4 : Nat} {zk : Array Value} (hz : zk.size = 5)
  (hW0 : W0 = (((w.alloc (.cells (a.cells k) 36)).alloc (.cells cs 26)).alloc (.cells zk 36)).alloc (.cells #[.int .i64 0, .int .i64 0, .string ⟨#[]⟩] 41))
  (hb : Below W0.heap.size W0 W1) (hC : Copied W1 W0.heap.size (.slice A0 k.mods.length c0) (.slice A1 k.mem.length c1) (.slice A2 k.nodes.length c2) (.slice A3 k.pipes.length c3) (.slice A4 k.procs.length c4) k ms es) (hf : k.fits) :
  DoAt w ((((lay5 W1 w.heap.size (.slice A0 k.mods.length c0) (.slice A1 k.mem.length c1) (.slice A2 k.nodes.length c2) (.slice A3 k.pipes.length c3) (.slice A4 k.procs.length c4))).alloc (.cells #[.pointer (some ⟨w.heap.size, 0, none⟩)] 138)).alloc (.cells #[.int .i64 0, .int .i64 0, .string ⟨#[]⟩] 41))
   ⟨A0, c0, A1, c1, A2, c2, A3, c3, A4, c4⟩ k ms es cs W1.heap.size (W1.heap.size + 1) 0 0 ⟨#[]⟩ := by
 have hn : W0.heap.size = w.heap.size + 4 := by rw [hW0]; simp
 have hn1 := hb.size
 have b0 : Blk W0 w.heap.size 36 (a.cells k) := by rw [hW0]; exact (((Blk.new w _ _).alloc _).alloc _).alloc _
 have b1 : Blk W0 (w.heap.size + 1) 26 cs := by rw [hW0]; exact ((Blk.new' (by simp)).alloc _).alloc _
 have b2 : Blk W0 (w.heap.size + 2) 36 zk := by rw [hW0]; exact (Blk.new' (by simp)).alloc _
 have b3 : Blk W0 (w.heap.size + 3) 41 #[.int .i64 0, .int .i64 0, .string ⟨#[]⟩] := by rw [hW0]; exact Blk.new' (by simp)
 have hb0 : Below w.heap.size w W0 := by
  rw [hW0]
  exact ((((Below.refl w.heap.size w).alloc (Nat.le_refl _) _).alloc (by simp) _).alloc (by simp; omega) _).alloc (by simp; omega) _
 have e0 : (a.cells k).size = 5 := rfl
 have k0 := (b0.below hb b0.lt).lay5 e0 (.slice A0 k.mods.length c0) (.slice A1 k.mem.length c1) (.slice A2 k.nodes.length c2) (.slice A3 k.pipes.length c3) (.slice A4 k.procs.length c4)
 obtain ⟨WL, hWL⟩ : ∃ WL, WL = lay5 W1 w.heap.size (.slice A0 k.mods.length c0) (.slice A1 k.mem.length c1) (.slice A2 k.nodes.length c2) (.slice A3 k.pipes.length c3) (.slice A4 k.procs.length c4) := ⟨_, rfl⟩
 have hs : WL.heap.size = W1.heap.size := by rw [hWL]; simp [lay5]
 have hfar : ∀ q, q ≠ w.heap.size → WL.heap[q]? = W1.heap[q]? := fun q hq => by rw [hWL]; exact lay5_far _ _ _ _ _ _ _ q hq
 have hbl : Below w.heap.size w WL := by rw [hWL]; exact lay5_below (hb0.trans (hb.mono (by omega))) _ _ _ _ _
 have ht : Tch 36 W1 WL := by
  have g := lay5_grown W1 w.heap.size (.slice A0 k.mods.length c0) (.slice A1 k.mem.length c1) (.slice A2 k.nodes.length c2) (.slice A3 k.pipes.length c3) (.slice A4 k.procs.length c4)
  rw [← hWL] at g
  exact ⟨g.os, g.tape, g.output, g.size, fun q hq hne => g.block q hq fun e => by
   injection e with e
   subst e
   exact hne _ _ (b0.below hb b0.lt)⟩
 rw [← hWL] at k0 ⊢
 have C1 := (hC.tch ht (by decide) (by decide) (by decide) (by decide) (by decide) (by decide) (by decide)).base (B := w.heap.size) (by omega)
 have f2 := (Below.refl WL.heap.size WL).alloc (Nat.le_refl _) (.cells #[.pointer (some ⟨w.heap.size, 0, none⟩)] 138)
 have f3 := f2.alloc f2.size (.cells #[.int .i64 0, .int .i64 0, .string ⟨#[]⟩] 41)
 have bL1 := (b1.below hb b1.lt).tch ht (by decide)
 have bL2 : Blk WL (w.heap.size + 2) 36 zk := (hfar _ (by omega)).trans (b2.below hb b2.lt)
 have bL3 := (b3.below hb b3.lt).tch ht (by decide)
 have KSL : KS w.heap.size WL w.heap.size ⟨A0, c0, A1, c1, A2, c2, A3, c3, A4, c4⟩ k ms es := ⟨Nat.le_refl _, k0, C1, hf⟩
 refine ⟨KSL.below f3, hbl.trans (f3.mono (by omega)), bL1.below f3 bL1.lt, ⟨zk, bL2.below f3 bL2.lt, hz⟩, bL3.below f3 bL3.lt, ?_, ?_, by omega⟩
 ·rw [← hs]
  exact (Blk.new WL _ _).alloc _
 ·rw [← hs]
  exact Blk.new' (by simp)
end
end Go.Proofs.YtdjamdbamkhblacDoor
namespace Go.Proofs.YtdjamdbamkhblacDoor
open Go.RowKit
section
variable {P : Program} {ops : Array Oper} {Q : Exit → Act → World → Prop} {md : Region.Mode}
theorem ready_mem {listed : Array Bool} {i : Nat} (h : i ∈ Region.ready md ops listed) : ∃ o, ops[i]? = some o ∧ listed.getD i true = false ∧ (o.after.all fun e => !Region.binds md e || listed.getD e.on false) = true := by
 unfold Region.ready at h
 obtain ⟨h1, h2⟩ := List.mem_filter.1 h
 rw [Bool.and_eq_true] at h2
 obtain ⟨h3, h4⟩ := h2
 cases ho : ops[i]? with
 | none => rw [ho] at h4; simp at h4
 | some o =>
   rw [ho] at h4
   exact ⟨o, rfl, by simpa using h3, by simpa using h4⟩
theorem ready_all {listed : Array Bool} (hord : ∀ (i : Nat) (o : Oper), ops[i]? = some o → ∀ e ∈ o.after, e.on < i) (h : Region.ready md ops listed = []) : ∀ i, i < ops.size → listed.getD i true = true := by
 intro i
 induction i using Nat.strongRecOn with
 | ind i ih =>
   intro hi
   cases hl : listed.getD i true with
   | true => rfl
   | false =>
     exfalso
     have : i ∈ Region.ready md ops listed := by
      unfold Region.ready
      refine List.mem_filter.2 ⟨List.mem_range.2 hi, ?_⟩
      obtain ⟨o, ho⟩ : ∃ o, ops[i]? = some o := ⟨_, Array.getElem?_eq_getElem hi⟩
      rw [hl, ho]
      simp only [Bool.not_false, Bool.true_and, Option.map_some, Option.getD_some]
      rw [Array.all_eq_true_iff_forall_mem]
      intro e he
      have h1 := hord i o ho e he
      have h2 := ih e.on h1 (by omega)
      have h3 : listed.getD e.on false = true := by
       rw [Array.getD_eq_getD_getElem?] at h2 ⊢
       cases hx : listed[e.on]? with
       | none =>
         exfalso
         rw [Array.getD_eq_getD_getElem?] at hl
         cases hy : listed[i]? with
         | none => rw [hy] at hl; simp at hl
         | some b =>
           have := (Array.getElem?_eq_some_iff.1 hy).1
           have := Array.getElem?_eq_none_iff.1 hx
           omega
       | some b => rw [hx] at h2; simpa using h2
      rw [h3]; simp
     rw [h] at this
     cases this
def unlisted (listed : Array Bool) : Nat := listed.toList.countP (· == false)
theorem unlisted_set {listed : Array Bool} {i : Nat} (h : listed.getD i true = false) : unlisted (listed.setIfInBounds i true) + 1 = unlisted listed := by
 rw [Array.getD_eq_getD_getElem?] at h
 cases hy : listed[i]? with
 | none => rw [hy] at h; simp at h
 | some b =>
   rw [hy] at h
   have hb : b = false := by simpa using h
   subst hb
   obtain ⟨hi, hv⟩ := Array.getElem?_eq_some_iff.1 hy
   unfold unlisted
   rw [Array.toList_setIfInBounds, List.set_eq_take_append_cons_drop, if_pos (by simpa using hi)]
   have e : listed.toList = listed.toList.take i ++ false :: listed.toList.drop (i + 1) := by
    conv => lhs; rw [← List.take_append_drop i listed.toList]
    congr 1
    rw [List.drop_eq_getElem_cons (by simpa using hi)]
    congr 1
   conv => rhs; rw [e]
   simp only [List.countP_append, List.countP_cons]
   simp
   omega
theorem wpAny_inv (I : Array Bool → Act → World → Prop) (hord : ∀ (i : Nat) (o : Oper), ops[i]? = some o → ∀ e ∈ o.after, e.on < i)
  (hstep : ∀ (i : Nat) (o : Oper), ops[i]? = some o → ∀ listed a w, listed.getD i true = false → (o.after.all fun e => !Region.binds md e || listed.getD e.on false) = true → I listed a w →
    ∀ K : Act → World → Prop, (∀ a w, I (listed.setIfInBounds i true) a w → K a w) → if Region.wanted o (yielded ops a.tmps) = true then Oper.wp P o a w K Q else K (a.put o.dst undef) w)
  (hend : ∀ listed a w, (∀ i, i < ops.size → listed.getD i true = true) → I listed a w → Q .normal a w) :
  ∀ (fuel : Nat) (listed : Array Bool) (a : Act) (w : World), unlisted listed ≤ fuel → I listed a w → wpAny P md ops Q fuel listed a w := by
 intro fuel
 induction fuel with
 | zero =>
   intro listed a w hu hI
   have hr : Region.ready md ops listed = [] := by
    cases hr : Region.ready md ops listed with
    | nil => rfl
    | cons i r =>
      obtain ⟨o, ho, h1, h2⟩ := ready_mem (md := md) (ops := ops) (listed := listed) (i := i) (by rw [hr]; simp)
      have := unlisted_set h1
      omega
   exact ⟨hr, hend _ _ _ (ready_all hord hr) hI⟩
 | succ fuel ih =>
   intro listed a w hu hI
   refine ⟨fun hr => hend _ _ _ (ready_all hord hr) hI, fun i hi => ?_⟩
   obtain ⟨o, ho, h1, h2⟩ := ready_mem hi
   refine wpOp_step ho fun K' hK' => ?_
   refine hstep i o ho listed a w h1 h2 hI K' fun a' w' hI' => hK' _ _ (ih _ _ _ ?_ hI')
   have := unlisted_set h1
   omega
theorem unlisted_none (n : Nat) : unlisted (Array.replicate n false) ≤ n := by
 unfold unlisted
 refine Nat.le_trans List.countP_le_length ?_
 simp
theorem wp_region_inv {id : Nat} {a : Act} {w : World} (I : Array Bool → Act → World → Prop) (hm : P.follows .mixedOrders = true) (hord : ∀ (i : Nat) (o : Oper), ops[i]? = some o → ∀ e ∈ o.after, e.on < i)
  (h0 : I (Array.replicate ops.size false) a w.drew)
  (hstep : ∀ (i : Nat) (o : Oper), ops[i]? = some o → ∀ listed a w, listed.getD i true = false → (o.after.all fun e => !Region.binds .any e || listed.getD e.on false) = true → I listed a w →
    ∀ K : Act → World → Prop, (∀ a w, I (listed.setIfInBounds i true) a w → K a w) → if Region.wanted o (yielded ops a.tmps) = true then Oper.wp P o a w K Q else K (a.put o.dst undef) w)
  (hend : ∀ listed a w, (∀ i, i < ops.size → listed.getD i true = true) → I listed a w → Q .normal a w) : (Code.region id ops true).wp P Q a w :=
 wp_region_any hm (wpAny_inv I hord hstep hend _ _ _ _ (unlisted_none _) h0)
def ordB (ops : Array Oper) : Bool := (List.range ops.size).all fun i => match ops[i]? with
 | some o => o.after.all fun e => decide (e.on < i)
 | none => true
theorem ord_of (h : ordB ops = true) : ∀ (i : Nat) (o : Oper), ops[i]? = some o → ∀ e ∈ o.after, e.on < i := fun i o ho e he => by
 have hi : i < ops.size := (Array.getElem?_eq_some_iff.1 ho).1
 have := (List.all_eq_true.1 h) i (List.mem_range.2 hi)
 rw [ho] at this
 simpa using (Array.all_eq_true_iff_forall_mem.1 this) e he
end
theorem listed_set (listed : Array Bool) (i j : Nat) : (listed.setIfInBounds i true).getD j true = (decide (i = j) || listed.getD j true) := by
 rw [Array.getD_eq_getD_getElem?, Array.getD_eq_getD_getElem?, Array.getElem?_setIfInBounds]
 by_cases h : i = j
 ·subst h
  by_cases h2 : i < listed.size <;> simp [h2]
 ·simp [h]
end Go.Proofs.YtdjamdbamkhblacDoor
namespace Go.Proofs.YtdjamdbamkhblacDoor
open Go.RowKit
theorem waitsR {l : Array Bool} {j : Nat} (h : l[j]?.getD false = true) : l.getD j true = true := by
 rw [Array.getD_eq_getD_getElem?]
 cases hj : l[j]? with
 | none => rfl
 | some b => rw [hj] at h; exact h
theorem upeqR {l : Array Bool} {i j : Nat} (h : i ≠ j) : (l.setIfInBounds i true).getD j true = l.getD j true := by rw [listed_set]; simp [h]
theorem upneR {l : Array Bool} {i j : Nat} (h : i ≠ j) (x : (l.setIfInBounds i true).getD j true = true) : l.getD j true = true := by rw [upeqR h] at x; exact x
theorem upselfR {l : Array Bool} {i : Nat} : (l.setIfInBounds i true).getD i true = true := by rw [listed_set]; simp
section
variable {P : Program} (w : World)
theorem step_append_rdR {ops : Array Oper} {o : Oper} {a : Act} {K : Act → World → Prop} {Q : Exit → Act → World → Prop} {E : Prop} (hgd : o.guard = none) (s x : Operand) (t : TypeId)
  (ho : o.op = .call { callee := .builtin .append, args := #[s, x], argTypes := #[t, t] })
  (base : Nat) (e : TypeId) (i : TypeInfo) (z : Value) (size bytes : Nat) (ht : P.underlying t = some (.slice e)) (hi : P.info? e = some i) (hz : i.zero = some z)
  (hsize : i.size = size) (hby : i.bytes = bytes) (hzs : z.cells.size = size) (hsz : 0 < size)
  (v : Value) (n : Nat) (xs : List Value) (hs : a.eval s = v) (hown : w.ownsRow base e size v n xs)
  (B : Nat) (A : Option Addr) (m c : Nat) (news : List Value) (hx : a.eval x = .slice A m c) (hr : Rd w B size A m news) (h1 : ∀ u ∈ news, u.oneCell' = true)
  (h63 : n + m ≤ maxLen) (hbytes : (n + m) * bytes ≤ 140737488355328) (hbase : base ≤ w.heap.size)
  (h : ∀ A' c' w', w'.ownsRow base e size (.slice A' (n + m) c') (n + m) (xs ++ news) → w.grownBy w' v.ownBlock → ((Value.slice A' (n + m) c').ownBlock = v.ownBlock ∨ (Value.slice A' (n + m) c').ownBlock = some w.heap.size) → K (a.put o.dst (.slice A' (n + m) c')) w') :
  if Region.wanted o (yielded ops a.tmps) = true then Oper.wp P o a w K Q else E := by
 have hw : Region.wanted o (yielded ops a.tmps) = true := by simp [Region.wanted, hgd]
 rw [if_pos hw]
 obtain ⟨v', w', hrun, h2, h3, h4⟩ := run_append_rd (P := P) w base t o.type e i z size bytes ht hi hz hsize hby hzs hsz v n xs hown B A m c news hr h1 h63 hbytes hbase
 obtain ⟨A', c', rfl⟩ := own_slice h2
 unfold Oper.wp execOp
 simp only [ho, resolve, invoke, builtin, Sem.run_bind, Sem.run_pure, Result.andThen_ok, List.map_toArray, List.map_cons, List.map_nil, hs, hx, hrun]
 exact h A' c' w' h2 h3 h4
end
def regAt (id : Nat) : Code → Option Code
 | .region i ops d => if i = id then some (.region i ops d) else none
 | .seq a b => match regAt id a with
   | some c => some c
   | none => regAt id b
 | .loop c => regAt id c
 | .block _ c => regAt id c
 | .scope c => regAt id c
 | .cond _ a b => match regAt id a with
   | some c => some c
   | none => regAt id b
 | _ => none
end Go.Proofs.YtdjamdbamkhblacDoor
namespace Go.Proofs.YtdjamdbamkhblacDoor
open Go.RowKit
section
variable {P : Program} {ops : Array Oper} {Q : Exit → Act → World → Prop} {md : Region.Mode}
theorem ready_allB {listed : Array Bool} (hord : ∀ (i : Nat) (o : Oper), ops[i]? = some o → ∀ e ∈ o.after, Region.binds md e = true → e.on < i) (h : Region.ready md ops listed = []) : ∀ i, i < ops.size → listed.getD i true = true := by
 intro i
 induction i using Nat.strongRecOn with
 | ind i ih =>
   intro hi
   cases hl : listed.getD i true with
   | true => rfl
   | false =>
     exfalso
     have : i ∈ Region.ready md ops listed := by
      unfold Region.ready
      refine List.mem_filter.2 ⟨List.mem_range.2 hi, ?_⟩
      obtain ⟨o, ho⟩ : ∃ o, ops[i]? = some o := ⟨_, Array.getElem?_eq_getElem hi⟩
      rw [hl, ho]
      simp only [Bool.not_false, Bool.true_and, Option.map_some, Option.getD_some]
      rw [Array.all_eq_true_iff_forall_mem]
      intro e he
      cases hbd : Region.binds md e with
      | false => simp
      | true =>
      have h1 := hord i o ho e he hbd
      have h2 := ih e.on h1 (by omega)
      have h3 : listed.getD e.on false = true := by
       rw [Array.getD_eq_getD_getElem?] at h2 ⊢
       cases hx : listed[e.on]? with
       | none =>
         exfalso
         rw [Array.getD_eq_getD_getElem?] at hl
         cases hy : listed[i]? with
         | none => rw [hy] at hl; simp at hl
         | some b =>
           have := (Array.getElem?_eq_some_iff.1 hy).1
           have := Array.getElem?_eq_none_iff.1 hx
           omega
       | some b => rw [hx] at h2; simpa using h2
      rw [h3]; simp
     rw [h] at this
     cases this
theorem wpAny_invB (I : Array Bool → Act → World → Prop) (hord : ∀ (i : Nat) (o : Oper), ops[i]? = some o → ∀ e ∈ o.after, Region.binds md e = true → e.on < i)
  (hstep : ∀ (i : Nat) (o : Oper), ops[i]? = some o → ∀ listed a w, listed.getD i true = false → (o.after.all fun e => !Region.binds md e || listed.getD e.on false) = true → I listed a w →
    ∀ K : Act → World → Prop, (∀ a w, I (listed.setIfInBounds i true) a w → K a w) → if Region.wanted o (yielded ops a.tmps) = true then Oper.wp P o a w K Q else K (a.put o.dst undef) w)
  (hend : ∀ listed a w, (∀ i, i < ops.size → listed.getD i true = true) → I listed a w → Q .normal a w) :
  ∀ (fuel : Nat) (listed : Array Bool) (a : Act) (w : World), unlisted listed ≤ fuel → I listed a w → wpAny P md ops Q fuel listed a w := by
 intro fuel
 induction fuel with
 | zero =>
   intro listed a w hu hI
   have hr : Region.ready md ops listed = [] := by
    cases hr : Region.ready md ops listed with
    | nil => rfl
    | cons i r =>
      obtain ⟨o, ho, h1, h2⟩ := ready_mem (md := md) (ops := ops) (listed := listed) (i := i) (by rw [hr]; simp)
      have := unlisted_set h1
      omega
   exact ⟨hr, hend _ _ _ (ready_allB hord hr) hI⟩
 | succ fuel ih =>
   intro listed a w hu hI
   refine ⟨fun hr => hend _ _ _ (ready_allB hord hr) hI, fun i hi => ?_⟩
   obtain ⟨o, ho, h1, h2⟩ := ready_mem hi
   refine wpOp_step ho fun K' hK' => ?_
   refine hstep i o ho listed a w h1 h2 hI K' fun a' w' hI' => hK' _ _ (ih _ _ _ ?_ hI')
   have := unlisted_set h1
   omega
theorem wp_region_invB {id : Nat} {a : Act} {w : World} (I : Array Bool → Act → World → Prop) (hm : P.follows .mixedOrders = true) (hord : ∀ (i : Nat) (o : Oper), ops[i]? = some o → ∀ e ∈ o.after, Region.binds .any e = true → e.on < i)
  (h0 : I (Array.replicate ops.size false) a w.drew)
  (hstep : ∀ (i : Nat) (o : Oper), ops[i]? = some o → ∀ listed a w, listed.getD i true = false → (o.after.all fun e => !Region.binds .any e || listed.getD e.on false) = true → I listed a w →
    ∀ K : Act → World → Prop, (∀ a w, I (listed.setIfInBounds i true) a w → K a w) → if Region.wanted o (yielded ops a.tmps) = true then Oper.wp P o a w K Q else K (a.put o.dst undef) w)
  (hend : ∀ listed a w, (∀ i, i < ops.size → listed.getD i true = true) → I listed a w → Q .normal a w) : (Code.region id ops true).wp P Q a w :=
 wp_region_any hm (wpAny_invB I hord hstep hend _ _ _ _ (unlisted_none _) h0)
def ordBB (ops : Array Oper) : Bool := (List.range ops.size).all fun i => match ops[i]? with
 | some o => o.after.all fun e => !Region.binds .any e || decide (e.on < i)
 | none => true
theorem ord_ofB (h : ordBB ops = true) : ∀ (i : Nat) (o : Oper), ops[i]? = some o → ∀ e ∈ o.after, Region.binds .any e = true → e.on < i := fun i o ho e he hb => by
 have hi : i < ops.size := (Array.getElem?_eq_some_iff.1 ho).1
 have := (List.all_eq_true.1 h) i (List.mem_range.2 hi)
 rw [ho] at this
 have := (Array.all_eq_true_iff_forall_mem.1 this) e he
 rw [hb] at this
 simpa using this
end
end Go.Proofs.YtdjamdbamkhblacDoor
