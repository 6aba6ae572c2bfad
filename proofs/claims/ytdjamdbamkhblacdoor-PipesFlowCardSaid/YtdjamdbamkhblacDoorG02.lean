/- A block that is known whole, and how it is kept: no condition. What a step may touch: only blocks of one element type, and new ones: no condition. What every law's proof of this seat shares: from a walk that leaves old memory as it was to the row's last step; arguments opened. No condition. A module, as plain data and as a value in memory. Files, open ends, processes, kernels and acts as plain data, and as what memory reads: no condition. -/
import Derived.Test.YtdjamdbamkhblacDoorG01
import Derived.Deep.DeepHandedRow
import Derived.Lib.LaidTab
namespace Go.Proofs.YtdjamdbamkhblacDoor
open Go.RowKit

/-- Block g is just the cells cs of element type t, none frozen. -/
def Blk (w : World) (g : Nat) (t : TypeId) (cs : Array Value) : Prop := w.heap[g]? = some (.cells cs t (0, 0))
section
variable {w w' : World} {g : Nat} {t : TypeId} {cs : Array Value}
theorem Blk.lt (h : Blk w g t cs) : g < w.heap.size := by
  rcases Nat.lt_or_ge g w.heap.size with hlt | hge
  · exact hlt
  · unfold Blk at h; rw [Array.getElem?_eq_none hge] at h; cases h
theorem Blk.cell (h : Blk w g t cs) (i : Nat) : w.cell? ⟨g, i, none⟩ = cs[i]? := cell_of_row w g i cs t (0, 0) h
theorem Blk.frozen (h : Blk w g t cs) (i : Nat) : w.frozen? ⟨g, i, none⟩ = false := by
  unfold Blk at h
  simp [World.frozen?, h]
theorem Blk.new (w : World) (t : TypeId) (cs : Array Value) : Blk (w.alloc (.cells cs t)) w.heap.size t cs := heap_alloc_new w _
theorem Blk.drew (h : Blk w g t cs) : Blk w.drew g t cs := h
theorem Blk.drewN (h : Blk w g t cs) (n : Nat) : Blk (w.drewN n) g t cs := h
theorem Blk.alloc (h : Blk w g t cs) (o : Obj) : Blk (w.alloc o) g t cs := (Below.heap_alloc w o g h.lt).trans h
theorem Blk.set_ (h : Blk w g t cs) (i : Nat) (u : Value) : Blk (w.setCell ⟨g, i, none⟩ u) g t (cs.setIfInBounds i u) := by
  unfold Blk at h ⊢
  simp [World.setCell, Array.getElem?_modify, h]
theorem Blk.far (h : Blk w g t cs) {p : Addr} (hp : g ≠ p.block) (u : Value) : Blk (w.setCell p u) g t cs := (Below.heap_setCell w p u g hp).trans h
theorem Blk.below {B : Nat} (h : Blk w g t cs) (hb : Below B w w') (hg : g < B) : Blk w' g t cs := (hb.block g hg).trans h
theorem Blk.grown {row : Option Nat} (h : Blk w g t cs) (hb : w.grownBy w' row) (hg : some g ≠ row) : Blk w' g t cs := (hb.block g h.lt hg).trans h
theorem Blk.ne_ {g' : Nat} {t' : TypeId} {cs' : Array Value} (h : Blk w g t cs) (h' : Blk w g' t' cs') (hne : t ≠ t') : g ≠ g' := by
  rintro rfl
  unfold Blk at h h'
  rw [h] at h'
  injection h' with h'
  injection h' with _ ht
  exact hne ht
theorem Blk.same_ {t' : TypeId} {cs' : Array Value} (h : Blk w g t cs) (h' : Blk w g t' cs') : cs = cs' := by
  unfold Blk at h h'
  rw [h] at h'
  injection h' with h'
  injection h'
theorem own_blk_ne {base : Nat} {e : TypeId} {size n : Nat} {v : Value} {xs : List Value} (h : w.ownsRow base e size v n xs) (hg : Blk w g t cs) (hne : e ≠ t) : v.ownBlock ≠ some g := by
  rcases h.2 with ⟨rfl, _⟩ | ⟨g', cap, cur, rfl, _, hh, _⟩
  · simp [Value.ownBlock]
  · intro he
    have : g' = g := by simpa [Value.ownBlock] using he
    subst this
    exact Blk.ne_ (t := e) hh hg hne rfl
/-- A slice over a block's head. -/
theorem Blk.rd (h : Blk w g t cs) (n size : Nat) (hn : n * size ≤ cs.size) : Rd w w.heap.size size (some ⟨g, 0, none⟩) n (cs.toList.take (n * size)) := by
  refine ⟨by rw [List.length_take, Array.length_toList, Nat.min_eq_left hn], fun _ => ⟨g, 0, rfl, h.lt, fun j u hu => ?_⟩⟩
  rw [Nat.zero_add, h.cell]
  rw [List.getElem?_take] at hu
  split at hu
  · simpa using hu
  · cases hu
end
theorem Blk.new' {w : World} {n : Nat} {t : TypeId} {cs : Array Value} (h : n = w.heap.size) : Blk (w.alloc (.cells cs t)) n t cs := by subst h; exact Blk.new w t cs
/-- The result is laid. -/
def lay5 (w : World) (b : Nat) (u0 u1 u2 u3 u4 : Value) : World := ((((w.setCell ⟨b, 0, none⟩ u0).setCell ⟨b, 1, none⟩ u1).setCell ⟨b, 2, none⟩ u2).setCell ⟨b, 3, none⟩ u3).setCell ⟨b, 4, none⟩ u4
theorem lay5_far (w : World) (b : Nat) (u0 u1 u2 u3 u4 : Value) (q : Nat) (h : q ≠ b) : (lay5 w b u0 u1 u2 u3 u4).heap[q]? = w.heap[q]? := by
  unfold lay5
  rw [Below.heap_setCell _ _ _ _ h, Below.heap_setCell _ _ _ _ h, Below.heap_setCell _ _ _ _ h, Below.heap_setCell _ _ _ _ h, Below.heap_setCell _ _ _ _ h]
theorem lay5_below {B : Nat} {a w : World} (h : Below B a w) (u0 u1 u2 u3 u4 : Value) : Below B a (lay5 w B u0 u1 u2 u3 u4) := by
  unfold lay5
  have h0 := h.setCell (p := ⟨B, 0, none⟩) (Nat.le_refl _) u0
  have h1 := h0.setCell (p := ⟨B, 1, none⟩) (Nat.le_refl _) u1
  have h2 := h1.setCell (p := ⟨B, 2, none⟩) (Nat.le_refl _) u2
  have h3 := h2.setCell (p := ⟨B, 3, none⟩) (Nat.le_refl _) u3
  exact h3.setCell (p := ⟨B, 4, none⟩) (Nat.le_refl _) u4
theorem set_grown (w : World) (p : Addr) (u : Value) : w.grownBy (w.setCell p u) (some p.block) :=
  ⟨rfl, rfl, rfl, by simp, fun q _ hne => Below.heap_setCell w p u q (fun e => hne (by rw [e]))⟩
theorem lay5_grown (w : World) (b : Nat) (u0 u1 u2 u3 u4 : Value) : w.grownBy (lay5 w b u0 u1 u2 u3 u4) (some b) := by
  unfold lay5
  exact ((((set_grown w ⟨b, 0, none⟩ u0).trans (set_grown _ ⟨b, 1, none⟩ u1)).trans (set_grown _ ⟨b, 2, none⟩ u2)).trans (set_grown _ ⟨b, 3, none⟩ u3)).trans (set_grown _ ⟨b, 4, none⟩ u4)
theorem Blk.lay5 {w : World} {b : Nat} {t : TypeId} {cs : Array Value} (h : Blk w b t cs) (hs : cs.size = 5) (u0 u1 u2 u3 u4 : Value) : Blk (lay5 w b u0 u1 u2 u3 u4) b t #[u0, u1, u2, u3, u4] := by
  have e : ((((cs.setIfInBounds 0 u0).setIfInBounds 1 u1).setIfInBounds 2 u2).setIfInBounds 3 u3).setIfInBounds 4 u4 = #[u0, u1, u2, u3, u4] := by
    match cs, hs with
    | ⟨[x0, x1, x2, x3, x4]⟩, _ => rfl
  have h1 := h.set_ 0 u0
  have h2 := h1.set_ 1 u1
  have h3 := h2.set_ 2 u2
  have h4 := h3.set_ 3 u3
  have h5 := h4.set_ 4 u4
  rw [e] at h5
  unfold Go.Proofs.YtdjamdbamkhblacDoor.lay5
  exact h5
/-- make([]T, n) at a written number. -/
theorem mk_lit {P : Program} (w : World) (t e : TypeId) (z : Value) (size bytes n : Nat) (ht : P.underlying t = some (.slice e)) (hinfo : (P.info? e).map (fun i => (i.zero, i.size, i.bytes)) = some (some z, size, bytes))
    (hb : bytes * n ≤ 281474976710656) (hn : n ≤ 9223372036854775807) :
    (Instr.makeSlice t (.int .i64 (n : Int)) (.int .i64 (n : Int))).run P w = .ok (.slice (some ⟨w.heap.size, 0, none⟩) n n) (w.alloc (.cells (madeCells z.cells (n * size)) e)) := by
  obtain ⟨i, hi, hz, hs, hby⟩ := info_parts hinfo
  have h1 : (i.bytes : Int) * (n : Int) ≤ 281474976710656 := by
    rw [hby]
    have : ((bytes * n : Nat) : Int) ≤ ((281474976710656 : Nat) : Int) := Int.ofNat_le.2 hb
    rw [Int.natCast_mul] at this
    exact this
  have h2 := run_make w t e i z ht hi hz .i64 .i64 (n : Int) (n : Int) (by omega) (by omega) h1 (by omega)
  rw [hs] at h2
  exact h2
end Go.Proofs.YtdjamdbamkhblacDoor
namespace Go.Proofs.YtdjamdbamkhblacDoor
open Go.RowKit

/-- w' is w but for new blocks and for blocks of element type t. -/
structure Tch (t : TypeId) (w w' : World) : Prop where
  os : w'.os = w.os
  tape : w'.tape = w.tape
  output : w'.output = w.output
  size : w.heap.size ≤ w'.heap.size
  block : ∀ q, q < w.heap.size → (∀ cs fr, w.heap[q]? ≠ some (.cells cs t fr)) → w'.heap[q]? = w.heap[q]?
theorem Tch.of_below {t : TypeId} {w w' : World} (h : Below w.heap.size w w') : Tch t w w' := ⟨h.os, h.tape, h.output, h.size, fun q hq _ => h.block q hq⟩
theorem Tch.of_grown {t : TypeId} {w w' : World} {base size n : Nat} {v : Value} {xs : List Value} (h : w.ownsRow base t size v n xs) (hg : w.grownBy w' v.ownBlock) : Tch t w w' :=
  ⟨hg.os, hg.tape, hg.output, hg.size, fun q hq hne => hg.block q hq fun e => by
    rcases h.2 with ⟨rfl, _⟩ | ⟨g', cap, cur, rfl, _, hh, _⟩
    · cases e
    · have : q = g' := by simpa [Value.ownBlock] using e
      subst this
      exact hne _ _ hh⟩
theorem Tch.of_set {t : TypeId} {w : World} {p : Addr} {cs : Array Value} (h : Blk w p.block t cs) (u : Value) : Tch t w (w.setCell p u) :=
  ⟨rfl, rfl, rfl, by simp, fun q _ hne => Below.heap_setCell w p u q fun e => by subst e; exact hne _ _ h⟩
theorem Tch.of_none {t : TypeId} {w w' : World} (h : w.grownBy w' none) : Tch t w w' := ⟨h.os, h.tape, h.output, h.size, fun q hq _ => h.block q hq (by simp)⟩
theorem Blk.tch {w w' : World} {g : Nat} {t e : TypeId} {cs : Array Value} (h : Blk w g e cs) (ht : Tch t w w') (hne : e ≠ t) : Blk w' g e cs :=
  (ht.block g h.lt fun cs' fr hc => by
    unfold Blk at h
    rw [h] at hc
    injection hc with hc
    injection hc with _ hc
    exact hne hc).trans h
theorem own_tch {w w' : World} {t e : TypeId} {base size n : Nat} {v : Value} {xs : List Value} (h : w.ownsRow base e size v n xs) (ht : Tch t w w') (hne : e ≠ t) : w'.ownsRow base e size v n xs := by
  refine ⟨h.1, ?_⟩
  rcases h.2 with h2 | ⟨g, cap, cur, hv, hb, hg, r⟩
  · exact .inl h2
  · exact .inr ⟨g, cap, cur, hv, hb, Blk.tch (cs := cur) hg ht hne, r⟩
theorem own_ne {w : World} {t e : TypeId} {base base' size size' n n' : Nat} {v u : Value} {xs ys : List Value} (h : w.ownsRow base e size v n xs) (h' : w.ownsRow base' t size' u n' ys) (hne : e ≠ t) : v.ownBlock = none ∨ v.ownBlock ≠ u.ownBlock := by
  rcases h.2 with ⟨rfl, _⟩ | ⟨g, cap, cur, rfl, _, hh, _⟩
  · exact .inl rfl
  · right
    have := own_blk_ne h' (g := g) (cs := cur) hh (Ne.symm hne)
    intro e
    exact this (e.symm.trans rfl)
end Go.Proofs.YtdjamdbamkhblacDoor
namespace Go.Proofs.YtdjamdbamkhblacDoor
open Go.RowKit Go.WideShapes Go.ChangeShapes Go.ChangeAt Go.Deep

theorem own : ownKnob Tryd.prog.godebug = none := by kernel_rfl
theorem laidOut : laidOutB Tryd.prog = true := by kernel_rfl
theorem cells_Raw : Tryd.prog.cellsOf 23 = 4 := by kernel_rfl

section
variable {H : Type} {enc : TypeId × Value → H} {P : Program}
theorem trodAll_stays (hl : laidOutB P = true) {W W' : World} {sp' : Nat → Bool} : ∀ {ts : List TypeId} {vs : List Value} {ds : List (DataW H)} {ps : List MemPlace},
    ts.all (fun t => P.readableRec t && decide (t < P.types.size)) = true → DataW.TrodAll enc P W 0 (fun _ => true) true ts vs ds ps → (∀ p ∈ ps, W.sameAt W' p) → (∀ p ∈ ps, sp' p.block = true) → DataW.TrodAll enc P W' 0 sp' true ts vs ds ps
  | [], vs, ds, ps, _, h, _, _ => by
    obtain ⟨rfl, rfl, rfl⟩ := trodAll_nil h
    exact trodAll_mk0
  | t :: ts, vs, ds, ps, ha, h, hs, hsp => by
    obtain ⟨v, vs', d, ds', p, q, rfl, rfl, rfl, h1, h2⟩ := trodAll_cons h
    simp only [List.all_cons, Bool.and_eq_true, decide_eq_true_eq] at ha
    exact ⟨p, q, WideElems.Trod_stays hl ha.1.1 ha.1.2 h1 (fun x hx => hs x (List.mem_append_left _ hx)) (fun x hx => hsp x (List.mem_append_left _ hx)),
      trodAll_stays hl ha.2 h2 (fun x hx => hs x (List.mem_append_right _ hx)) (fun x hx => hsp x (List.mem_append_right _ hx)), rfl⟩

/-- A LAW'S LAST STEP: it answered true, and what was there is as it was. -/
theorem law_post {f : Func} {s : ChangeSpec} {apart fresh handsOn : Bool} {W W' : World} {args : Array Value} {ds gs : List (DataW H)} {before : List MemPlace} {bt : TypeId}
    (hW : DataW.Whole enc P f.params.toList s.vars apart W args.toList ds gs before) (hv : s.vars = []) (hr : f.resultTypes = #[bt]) (hbt : P.underlying bt = some .bool) (hl : laidOutB P = true)
    (hall : f.params.toList.all (fun t => P.readableRec t && decide (t < P.types.size)) = true) (hs : s.fn H ds = { results := [.lit (.bool true)], args := ds }) (hb : Below W.heap.size W W') :
    s.post enc P f apart fresh handsOn false W args (.bool true) W' := by
  have hW' := hW
  have hlt : ∀ p ∈ before, p.block < W.heap.size := fun p hp => hW.lt p hp
  obtain ⟨p, q, hA0, hV, rfl, hfz, hnd⟩ := hW
  rw [hv] at hV
  obtain ⟨rfl, rfl⟩ := trodVars_none hV
  have hA : DataW.TrodAll enc P W 0 (fun _ => true) true f.params.toList args.toList ds p := hA0
  rw [List.append_nil] at hW' hlt
  refine ⟨ds, [], p, [], p, [], hW', ?_, ?_, ?_, ?_, fun h => by cases h⟩
  · rw [List.append_nil, hs, hr]
    exact trodAll_mk1 (shut_bool hbt true)
  · rw [List.append_nil, hs]
    exact trodAll_stays hl hall hA (fun x hx => hb.same (hlt x hx)) (fun x hx => by simpa using hlt x hx)
  · rw [hv, List.append_nil, hs]
    exact rfl
  · exact World.keptBut_mono (fun x hx => ⟨hx, Or.inr (Or.inl hx)⟩) (hb.frame (· ∈ p))

/-- An array of strings that reads as listed holds those strings. -/
theorem cells_of_strs {w : World} {base : Nat} {sp : Nat → Bool} {held : Bool} {fuel : Nat} {t e : TypeId} {n : Nat} {cs : List Value} {zs : List (List UInt8)} {p : List MemPlace}
    (ht : P.underlying t = some (.array n e)) (he : P.underlying e = some .string) (hce : P.cellsOf e = 1) (hct : P.cellsOf t = n)
    (h : DataW.trod enc P w base sp held fuel t cs = some (.agg (zs.map fun z => .lit (.string z)), p)) : cs = zs.map fun z => Value.string ⟨z.toArray⟩ := by
  cases fuel with
  | zero => simp [DataW.trod] at h
  | succ fuel =>
    simp only [DataW.trod, ht, hce, hct, Nat.mul_one] at h
    split at h
    · rename_i hl
      obtain ⟨xs, hm, hx⟩ := Option.map_eq_some_iff.1 h
      have hxs : xs.map (·.1) = zs.map fun z => (DataW.lit (.string z) : DataW H) := by
        have := congrArg Prod.fst hx
        simpa using this
      have hxl : xs.length = n := by simpa using Lib.mapM_length hm
      have hzl : zs.length = n := by
        have := congrArg List.length hxs
        simp at this
        omega
      apply List.ext_getElem?
      intro i
      by_cases hi : i < n
      · obtain ⟨b, hb, hf⟩ := Lib.mapM_at hm i i (by simp [hi])
        obtain ⟨z, hc, rfl, _⟩ := DataW.trod_string he hf
        have h1 : cs[i]? = some (.string z) := by
          have := congrArg (·[0]?) hc
          simpa [List.getElem?_take, List.getElem?_drop] using this
        have h2 : (xs.map (·.1))[i]? = some (DataW.lit (.string z.data.toList) : DataW H) := by simp [hb]
        rw [hxs] at h2
        simp only [List.getElem?_map, Option.map_eq_some_iff, DataW.lit.injEq, Lit.string.injEq] at h2
        obtain ⟨z', hz', hz⟩ := h2
        subst hz
        simp [h1, hz']
      · rw [List.getElem?_eq_none (by omega), List.getElem?_eq_none (by simp; omega)]
    · cases h

theorem strs_of_head {W : World} {name : String} {zs : List (List UInt8)} {rest : List (String × DataW Unit)} {g : Nat} {t e : TypeId} {n : Nat}
    (hg : P.globalNamed name = some g) (hty : (P.globals[g]?).map (·.type) = some t) (ht : P.underlying t = some (.array n e)) (he : P.underlying e = some .string) (hce : P.cellsOf e = 1) (hct : P.cellsOf t = n)
    (h : laidMet P ((name, .agg (zs.map fun z => .lit (.string z))) :: rest) W) (i : Nat) (z : List UInt8) (hi : zs[i]? = some z) : W.cell? ⟨g, i, none⟩ = some (.string ⟨z.toArray⟩) := by
  obtain ⟨ps, ⟨g', t', cs, fuel, p, q, hg', ht', hvar, hd, _, _⟩, _⟩ := h
  obtain rfl := Option.some.inj (hg.symm.trans hg')
  obtain rfl := Option.some.inj (hty.symm.trans ht')
  have hv : W.var? P name = some (zs.map fun z => Value.string ⟨z.toArray⟩).toArray := by rw [hvar, ← cells_of_strs ht he hce hct hd]
  have := World.var?_cell hg hv i
  simpa [hi] using this

def wf64 (n : Int) : Prop := -9223372036854775808 ≤ n ∧ n ≤ 9223372036854775807
theorem wf64_of {n : Int} (h : (Lit.int .i64 n).wf = true) : wf64 n := by
  simpa [Lit.wf, IntKind.min, IntKind.max, IntKind.signed, IntKind.bits, wf64] using h
def Ins.wf (i : Ins) : Prop := wf64 i.op ∧ wf64 i.a ∧ wf64 i.b ∧ wf64 i.c

end
end Go.Proofs.YtdjamdbamkhblacDoor
namespace Go.Proofs.YtdjamdbamkhblacDoor
open Go.RowKit

/-- A module. -/
structure Mod where
  name : ByteArray
  code : List Ins
  data : List Int
end Go.Proofs.YtdjamdbamkhblacDoor
namespace Go.Proofs.YtdjamdbamkhblacDoor
open Go.RowKit

/-- A file. -/
structure Nod where
  name : ByteArray
  kind : Int
  data : ByteArray
  unit : Int
instance : Inhabited Nod := ⟨⟨⟨#[]⟩, 0, ⟨#[]⟩, 0⟩⟩
/-- An open end. -/
structure Opn where
  kind : Int
  node : Int
  pos : Int
instance : Inhabited Opn := ⟨⟨0, 0, 0⟩⟩
/-- A process. -/
structure Prc where
  live : Bool
  ends : List Opn
instance : Inhabited Prc := ⟨⟨false, []⟩⟩
instance : Inhabited Mod := ⟨⟨⟨#[]⟩, [], []⟩⟩
/-- A kernel. -/
structure Krn where
  mods : List Mod
  mem : List Int
  nodes : List Nod
  pipes : List ByteArray
  procs : List Prc
/-- An act. -/
structure Akt where
  kind : Int
  p : Int
  n : Int
  m : Int
  name : ByteArray
  data : ByteArray
instance : Inhabited Akt := ⟨⟨0, 0, 0, 0, ⟨#[]⟩, ⟨#[]⟩⟩⟩

def RdS (w : World) (B : Nat) (A : Option Addr) (l : List ByteArray) : Prop :=
  0 < l.length → ∃ b o, A = some ⟨b, o, none⟩ ∧ b < B ∧ ∀ k (h : k < l.length), w.cell? ⟨b, o + k, none⟩ = some (.string l[k])
def RdD (w : World) (B : Nat) (A : Option Addr) (l : List Nod) : Prop :=
  0 < l.length → ∃ b o, A = some ⟨b, o, none⟩ ∧ b < B ∧ ∀ k (h : k < l.length),
    w.cell? ⟨b, o + k * 4, none⟩ = some (.string l[k].name) ∧ w.cell? ⟨b, o + k * 4 + 1, none⟩ = some (.int .i64 l[k].kind) ∧
    w.cell? ⟨b, o + k * 4 + 2, none⟩ = some (.string l[k].data) ∧ w.cell? ⟨b, o + k * 4 + 3, none⟩ = some (.int .i64 l[k].unit)
def RdE (w : World) (B : Nat) (A : Option Addr) (l : List Opn) : Prop :=
  0 < l.length → ∃ b o, A = some ⟨b, o, none⟩ ∧ b < B ∧ ∀ k (h : k < l.length),
    w.cell? ⟨b, o + k * 3, none⟩ = some (.int .i64 l[k].kind) ∧ w.cell? ⟨b, o + k * 3 + 1, none⟩ = some (.int .i64 l[k].node) ∧
    w.cell? ⟨b, o + k * 3 + 2, none⟩ = some (.int .i64 l[k].pos)
def RdA (w : World) (B : Nat) (A : Option Addr) (l : List Akt) : Prop :=
  0 < l.length → ∃ b o, A = some ⟨b, o, none⟩ ∧ b < B ∧ ∀ k (h : k < l.length),
    w.cell? ⟨b, o + k * 6, none⟩ = some (.int .i64 l[k].kind) ∧ w.cell? ⟨b, o + k * 6 + 1, none⟩ = some (.int .i64 l[k].p) ∧
    w.cell? ⟨b, o + k * 6 + 2, none⟩ = some (.int .i64 l[k].n) ∧ w.cell? ⟨b, o + k * 6 + 3, none⟩ = some (.int .i64 l[k].m) ∧
    w.cell? ⟨b, o + k * 6 + 4, none⟩ = some (.string l[k].name) ∧ w.cell? ⟨b, o + k * 6 + 5, none⟩ = some (.string l[k].data)

/-- What a module's two slices, and its name, are good for. -/
structure ModAt (w : World) (B : Nat) (A : Option Addr) (c : Nat) (A' : Option Addr) (c' : Nat) (m : Mod) : Prop where
  code : RdI w B A m.code
  data : RdN w B A' m.data
  nm : m.name.size ≤ 140737488351232
  cl : m.code.length * 32 ≤ 140737488351232
  dl : m.data.length * 8 ≤ 140737488351232
  nil : A = none → m.code.length = 0 ∧ c = 0
  nil' : A' = none → m.data.length = 0 ∧ c' = 0
def RdM (w : World) (B : Nat) (A : Option Addr) (l : List Mod) : Prop :=
  0 < l.length → ∃ b o, A = some ⟨b, o, none⟩ ∧ b < B ∧ ∀ k (h : k < l.length), ∃ A1 c1 A2 c2,
    w.cell? ⟨b, o + k * 3, none⟩ = some (.string l[k].name) ∧ w.cell? ⟨b, o + k * 3 + 1, none⟩ = some (.slice A1 l[k].code.length c1) ∧
    w.cell? ⟨b, o + k * 3 + 2, none⟩ = some (.slice A2 l[k].data.length c2) ∧ ModAt w B A1 c1 A2 c2 l[k]
structure PrcAt (w : World) (B : Nat) (A : Option Addr) (c : Nat) (p : Prc) : Prop where
  ends : RdE w B A p.ends
  el : p.ends.length * 24 ≤ 140737488351232
  nil : A = none → p.ends.length = 0 ∧ c = 0
def RdP (w : World) (B : Nat) (A : Option Addr) (l : List Prc) : Prop :=
  0 < l.length → ∃ b o, A = some ⟨b, o, none⟩ ∧ b < B ∧ ∀ k (h : k < l.length), ∃ A1 c1,
    w.cell? ⟨b, o + k * 2, none⟩ = some (.bool l[k].live) ∧ w.cell? ⟨b, o + k * 2 + 1, none⟩ = some (.slice A1 l[k].ends.length c1) ∧ PrcAt w B A1 c1 l[k]

section
variable {w w' : World} {B B' : Nat} {A A' : Option Addr} {c c' : Nat}
theorem RdS.keep {l : List ByteArray} (h : RdS w B A l) (hk : ∀ p : Addr, p.block < B → w'.cell? p = w.cell? p) : RdS w' B A l := fun hl => by
  obtain ⟨b, o, e, hb, hc⟩ := h hl
  exact ⟨b, o, e, hb, fun k hk' => (hk _ hb).trans (hc k hk')⟩
theorem RdS.more {l : List ByteArray} (h : RdS w B A l) (hB : B ≤ B') : RdS w B' A l := fun hl => by
  obtain ⟨b, o, e, hb, hc⟩ := h hl
  exact ⟨b, o, e, by omega, hc⟩
theorem RdD.keep {l : List Nod} (h : RdD w B A l) (hk : ∀ p : Addr, p.block < B → w'.cell? p = w.cell? p) : RdD w' B A l := fun hl => by
  obtain ⟨b, o, e, hb, hc⟩ := h hl
  refine ⟨b, o, e, hb, fun k hk' => ?_⟩
  obtain ⟨h0, h1, h2, h3⟩ := hc k hk'
  exact ⟨(hk _ hb).trans h0, (hk _ hb).trans h1, (hk _ hb).trans h2, (hk _ hb).trans h3⟩
theorem RdD.more {l : List Nod} (h : RdD w B A l) (hB : B ≤ B') : RdD w B' A l := fun hl => by
  obtain ⟨b, o, e, hb, hc⟩ := h hl
  exact ⟨b, o, e, by omega, hc⟩
theorem RdE.keep {l : List Opn} (h : RdE w B A l) (hk : ∀ p : Addr, p.block < B → w'.cell? p = w.cell? p) : RdE w' B A l := fun hl => by
  obtain ⟨b, o, e, hb, hc⟩ := h hl
  refine ⟨b, o, e, hb, fun k hk' => ?_⟩
  obtain ⟨h0, h1, h2⟩ := hc k hk'
  exact ⟨(hk _ hb).trans h0, (hk _ hb).trans h1, (hk _ hb).trans h2⟩
theorem RdE.more {l : List Opn} (h : RdE w B A l) (hB : B ≤ B') : RdE w B' A l := fun hl => by
  obtain ⟨b, o, e, hb, hc⟩ := h hl
  exact ⟨b, o, e, by omega, hc⟩
theorem RdA.keep {l : List Akt} (h : RdA w B A l) (hk : ∀ p : Addr, p.block < B → w'.cell? p = w.cell? p) : RdA w' B A l := fun hl => by
  obtain ⟨b, o, e, hb, hc⟩ := h hl
  refine ⟨b, o, e, hb, fun k hk' => ?_⟩
  obtain ⟨h0, h1, h2, h3, h4, h5⟩ := hc k hk'
  exact ⟨(hk _ hb).trans h0, (hk _ hb).trans h1, (hk _ hb).trans h2, (hk _ hb).trans h3, (hk _ hb).trans h4, (hk _ hb).trans h5⟩
theorem RdA.more {l : List Akt} (h : RdA w B A l) (hB : B ≤ B') : RdA w B' A l := fun hl => by
  obtain ⟨b, o, e, hb, hc⟩ := h hl
  exact ⟨b, o, e, by omega, hc⟩
theorem ModAt.keep {m : Mod} (h : ModAt w B A c A' c' m) (hk : ∀ p : Addr, p.block < B → w'.cell? p = w.cell? p) : ModAt w' B A c A' c' m :=
  { h with code := h.code.keep hk, data := h.data.keep hk }
theorem ModAt.more {m : Mod} (h : ModAt w B A c A' c' m) (hB : B ≤ B') : ModAt w B' A c A' c' m :=
  { h with code := h.code.more hB, data := h.data.more hB }
theorem PrcAt.keep {p : Prc} (h : PrcAt w B A c p) (hk : ∀ p : Addr, p.block < B → w'.cell? p = w.cell? p) : PrcAt w' B A c p := { h with ends := h.ends.keep hk }
theorem PrcAt.more {p : Prc} (h : PrcAt w B A c p) (hB : B ≤ B') : PrcAt w B' A c p := { h with ends := h.ends.more hB }
theorem RdM.keep {l : List Mod} (h : RdM w B A l) (hk : ∀ p : Addr, p.block < B → w'.cell? p = w.cell? p) : RdM w' B A l := fun hl => by
  obtain ⟨b, o, e, hb, hc⟩ := h hl
  refine ⟨b, o, e, hb, fun k hk' => ?_⟩
  obtain ⟨A1, c1, A2, c2, h0, h1, h2, h3⟩ := hc k hk'
  exact ⟨A1, c1, A2, c2, (hk _ hb).trans h0, (hk _ hb).trans h1, (hk _ hb).trans h2, h3.keep hk⟩
theorem RdM.more {l : List Mod} (h : RdM w B A l) (hB : B ≤ B') : RdM w B' A l := fun hl => by
  obtain ⟨b, o, e, hb, hc⟩ := h hl
  refine ⟨b, o, e, by omega, fun k hk' => ?_⟩
  obtain ⟨A1, c1, A2, c2, h0, h1, h2, h3⟩ := hc k hk'
  exact ⟨A1, c1, A2, c2, h0, h1, h2, h3.more hB⟩
theorem RdP.keep {l : List Prc} (h : RdP w B A l) (hk : ∀ p : Addr, p.block < B → w'.cell? p = w.cell? p) : RdP w' B A l := fun hl => by
  obtain ⟨b, o, e, hb, hc⟩ := h hl
  refine ⟨b, o, e, hb, fun k hk' => ?_⟩
  obtain ⟨A1, c1, h0, h1, h2⟩ := hc k hk'
  exact ⟨A1, c1, (hk _ hb).trans h0, (hk _ hb).trans h1, h2.keep hk⟩
theorem RdP.more {l : List Prc} (h : RdP w B A l) (hB : B ≤ B') : RdP w B' A l := fun hl => by
  obtain ⟨b, o, e, hb, hc⟩ := h hl
  refine ⟨b, o, e, by omega, fun k hk' => ?_⟩
  obtain ⟨A1, c1, h0, h1, h2⟩ := hc k hk'
  exact ⟨A1, c1, h0, h1, h2.more hB⟩
theorem RdS.below {l : List ByteArray} (h : RdS w B A l) (hb : Below B w w') : RdS w' B A l := h.keep fun _ hp => hb.cell hp
theorem RdD.below {l : List Nod} (h : RdD w B A l) (hb : Below B w w') : RdD w' B A l := h.keep fun _ hp => hb.cell hp
theorem RdE.below {l : List Opn} (h : RdE w B A l) (hb : Below B w w') : RdE w' B A l := h.keep fun _ hp => hb.cell hp
theorem RdA.below {l : List Akt} (h : RdA w B A l) (hb : Below B w w') : RdA w' B A l := h.keep fun _ hp => hb.cell hp
theorem RdM.below {l : List Mod} (h : RdM w B A l) (hb : Below B w w') : RdM w' B A l := h.keep fun _ hp => hb.cell hp
theorem RdP.below {l : List Prc} (h : RdP w B A l) (hb : Below B w w') : RdP w' B A l := h.keep fun _ hp => hb.cell hp
end

/-- The five slices of a kernel. -/
structure KA where
  a0 : Option Addr
  c0 : Nat
  a1 : Option Addr
  c1 : Nat
  a2 : Option Addr
  c2 : Nat
  a3 : Option Addr
  c3 : Nat
  a4 : Option Addr
  c4 : Nat
/-- A kernel's value. -/
def KA.cells (a : KA) (k : Krn) : Array Value := #[.slice a.a0 k.mods.length a.c0, .slice a.a1 k.mem.length a.c1, .slice a.a2 k.nodes.length a.c2, .slice a.a3 k.pipes.length a.c3, .slice a.a4 k.procs.length a.c4]
/-- The five slices read as the kernel k, below block B. -/
structure KrnAt (w : World) (B : Nat) (a : KA) (k : Krn) : Prop where
  mods : RdM w B a.a0 k.mods
  mem : RdN w B a.a1 k.mem
  nodes : RdD w B a.a2 k.nodes
  pipes : RdS w B a.a3 k.pipes
  procs : RdP w B a.a4 k.procs
  l0 : k.mods.length * 64 ≤ 140737488351232
  l1 : k.mem.length * 8 ≤ 140737488351232
  l2 : k.nodes.length * 48 ≤ 140737488351232
  l3 : k.pipes.length * 16 ≤ 140737488351232
  l4 : k.procs.length * 32 ≤ 140737488351232
  n0 : a.a0 = none → k.mods.length = 0 ∧ a.c0 = 0
  n1 : a.a1 = none → k.mem.length = 0 ∧ a.c1 = 0
  n2 : a.a2 = none → k.nodes.length = 0 ∧ a.c2 = 0
  n3 : a.a3 = none → k.pipes.length = 0 ∧ a.c3 = 0
  n4 : a.a4 = none → k.procs.length = 0 ∧ a.c4 = 0
/-- Lengths within the capacities. -/
structure KA.caps (a : KA) (k : Krn) : Prop where
  m : k.mods.length ≤ a.c0
  d : k.nodes.length ≤ a.c2
theorem KrnAt.keep {w w' : World} {B : Nat} {a : KA} {k : Krn} (h : KrnAt w B a k) (hk : ∀ p : Addr, p.block < B → w'.cell? p = w.cell? p) : KrnAt w' B a k :=
  { h with mods := h.mods.keep hk, mem := h.mem.keep hk, nodes := h.nodes.keep hk, pipes := h.pipes.keep hk, procs := h.procs.keep hk }
theorem KrnAt.below {w w' : World} {B : Nat} {a : KA} {k : Krn} (h : KrnAt w B a k) (hb : Below B w w') : KrnAt w' B a k := h.keep fun _ hp => hb.cell hp
theorem KrnAt.more {w : World} {B B' : Nat} {a : KA} {k : Krn} (h : KrnAt w B a k) (hB : B ≤ B') : KrnAt w B' a k :=
  { h with mods := h.mods.more hB, mem := h.mem.more hB, nodes := h.nodes.more hB, pipes := h.pipes.more hB, procs := h.procs.more hB }

/-- A kernel's struct in block b. -/
def BoxK (w : World) (b : Nat) (a : KA) (k : Krn) : Prop :=
  w.cell? ⟨b, 0, none⟩ = some (.slice a.a0 k.mods.length a.c0) ∧ w.cell? ⟨b, 1, none⟩ = some (.slice a.a1 k.mem.length a.c1) ∧ w.cell? ⟨b, 2, none⟩ = some (.slice a.a2 k.nodes.length a.c2) ∧
  w.cell? ⟨b, 3, none⟩ = some (.slice a.a3 k.pipes.length a.c3) ∧ w.cell? ⟨b, 4, none⟩ = some (.slice a.a4 k.procs.length a.c4)
theorem BoxK.below {w w' : World} {b B : Nat} {a : KA} {k : Krn} (h : BoxK w b a k) (hb : Below B w w') (hlt : b < B) : BoxK w' b a k :=
  ⟨(hb.cell (p := ⟨b, 0, none⟩) hlt).trans h.1, (hb.cell (p := ⟨b, 1, none⟩) hlt).trans h.2.1, (hb.cell (p := ⟨b, 2, none⟩) hlt).trans h.2.2.1, (hb.cell (p := ⟨b, 3, none⟩) hlt).trans h.2.2.2.1, (hb.cell (p := ⟨b, 4, none⟩) hlt).trans h.2.2.2.2⟩
/-- Every number of it fits the machine's word. -/
structure Krn.wf (k : Krn) : Prop where
  code : ∀ m ∈ k.mods, ∀ i ∈ m.code, i.wf
  data : ∀ m ∈ k.mods, ∀ n ∈ m.data, wf64 n
  mem : ∀ n ∈ k.mem, wf64 n
  nodes : ∀ x ∈ k.nodes, wf64 x.kind ∧ wf64 x.unit ∧ x.name.size ≤ maxLen ∧ x.data.size ≤ maxLen
  pipes : ∀ s ∈ k.pipes, s.size ≤ maxLen
  ends : ∀ p ∈ k.procs, ∀ x ∈ p.ends, wf64 x.kind ∧ wf64 x.node ∧ wf64 x.pos
structure Akt.wf (a : Akt) : Prop where
  kind : wf64 a.kind
  p : wf64 a.p
  n : wf64 a.n
  m : wf64 a.m
  name : a.name.size ≤ 140737488351232
  data : a.data.size ≤ 140737488351232
def Akt.cells (a : Akt) : Array Value := #[.int .i64 a.kind, .int .i64 a.p, .int .i64 a.n, .int .i64 a.m, .string a.name, .string a.data]
end Go.Proofs.YtdjamdbamkhblacDoor
