/- The walk of the reference's ModuleOf: its state, and the one drawn round. No condition. -/
import Derived.Test.YtdjamdbamkhblabDoorModOfN
namespace Go.Proofs.YtdjamdbamkhblabDoor
open Go.RowKit
set_option linter.unusedVariables false
set_option linter.unusedSimpArgs false
/-- A decoding under way. -/
structure MO (w0 w : World) (bt bi bs bm B1 : Nat) (t : List UInt8) (st : Option (List UInt8)) (nm : List UInt8) (VC VD : Value) (L : List Ins) (D : List Int) : Prop where
  below : Below w0.heap.size w0 w
  nx : NxtAt w bt bi bs t st
  md : Blk w bm 50 #[.string (ba nm), VC, VD]
  oc : w.ownsRow B1 45 4 VC L.length (insCells L)
  od : w.ownsRow B1 3 1 VD D.length (intCells D)
  res : Blk w w0.heap.size 50 #[.string ⟨#[]⟩, .slice none 0 0, .slice none 0 0]
  ord : w0.heap.size < bt ∧ bt < bi ∧ bi < bs ∧ bs < bm ∧ bm < B1 ∧ B1 ≤ w.heap.size
section
variable {w0 w w' : World} {bt bi bs bm bx B1 : Nat} {t : List UInt8} {st st' : Option (List UInt8)} {nm : List UInt8} {VC VD : Value} {L : List Ins} {D : List Int}
theorem MO.dist (h : MO w0 w bt bi bs bm B1 t st nm VC VD L D) : bt ≠ bi ∧ bt ≠ bs ∧ bi ≠ bs := by have := h.ord; omega
theorem MO.next (h : MO w0 w bt bi bs bm B1 t st nm VC VD L D) (hR : NxtAt w' bt bi bs t st') (hg : Nx bi bs w w') : MO w0 w' bt bi bs bm B1 t st' nm VC VD L D := by
  obtain ⟨o1, o2, o3, o4, o5, o6⟩ := h.ord
  have hb : Below w0.heap.size w w' := hg.below (by omega) (by omega)
  exact ⟨h.below.trans hb, hR, h.md.nx hg (by omega) (by omega), own_nx h.oc hg (by omega) (by omega), own_nx h.od hg (by omega) (by omega), h.res.nx hg (by omega) (by omega), o1, o2, o3, o4, o5, by rw [hg.size]; exact o6⟩
theorem NxtAt.below (h : NxtAt w bt bi bs t st) (hb : Below w.heap.size w w') : NxtAt w' bt bi bs t st := ⟨h.tx.below hb h.tx.lt, h.ix.below hb h.ix.lt, h.sx.below hb h.sx.lt, h.suf, h.len⟩
theorem MO.up (h : MO w0 w bt bi bs bm B1 t st nm VC VD L D) (hb : Below w.heap.size w w') : MO w0 w' bt bi bs bm B1 t st nm VC VD L D := by
  obtain ⟨o1, o2, o3, o4, o5, o6⟩ := h.ord
  exact ⟨h.below.trans (hb.mono h.below.size), h.nx.below hb, h.md.below hb h.md.lt, own_below h.oc hb, own_below h.od hb, h.res.below hb h.res.lt, o1, o2, o3, o4, o5, Nat.le_trans o6 hb.size⟩
theorem MO.far {cs : Array Value} (h : MO w0 w bt bi bs bm B1 t st nm VC VD L D) (hx : Blk w bx 45 cs) (hB : B1 ≤ bx) (ho : VC.ownBlock ≠ some bx) (o : Nat) (u : Value) : MO w0 (w.setCell ⟨bx, o, none⟩ u) bt bi bs bm B1 t st nm VC VD L D := by
  obtain ⟨o1, o2, o3, o4, o5, o6⟩ := h.ord
  have ht := Tch.of_set (p := ⟨bx, o, none⟩) hx u
  exact ⟨h.below.setCell (p := ⟨bx, o, none⟩) (by show _ ≤ bx; omega) u, ⟨h.nx.tx.tch ht (by decide), h.nx.ix.tch ht (by decide), h.nx.sx.tch ht (by decide), h.nx.suf, h.nx.len⟩, h.md.tch ht (by decide), ownsRow_setCell_other h.oc (a := ⟨bx, o, none⟩) ho u, own_tch h.od ht (by decide), h.res.tch ht (by decide), o1, o2, o3, o4, o5, by simpa using o6⟩
end
theorem MO.start {w0 W : World} {bt : Nat} {t : List UInt8} (hb : Below w0.heap.size w0 W) (hT : Blk W bt 9 #[.string (ba t)]) (hR : Blk W w0.heap.size 50 #[.string ⟨#[]⟩, .slice none 0 0, .slice none 0 0]) (hl : t.length ≤ 4000) (h0 : w0.heap.size < bt) :
    MO w0 (((W.alloc (.cells #[.int .i64 0] 3)).alloc (.cells #[.bool false] 4)).alloc (.cells #[.string ⟨#[]⟩, .slice none 0 0, .slice none 0 0] 50)) bt W.heap.size (W.heap.size + 1) (W.heap.size + 1 + 1) (W.heap.size + 1 + 1 + 1) t (some t) [] (.slice none 0 0) (.slice none 0 0) [] [] := by
  have b1 := hb.alloc hb.size (.cells #[.int .i64 0] 3)
  have b2 := b1.alloc b1.size (.cells #[.bool false] 4)
  have b3 := b2.alloc b2.size (.cells #[.string ⟨#[]⟩, .slice none 0 0, .slice none 0 0] 50)
  refine ⟨b3, ⟨((hT.alloc _).alloc _).alloc _, ?_, ?_, fun r hr => ?_, hl⟩, Blk.new' (by simp), World.ownsRow_nil _ _ _ _, World.ownsRow_nil _ _ _ _, ((hR.alloc _).alloc _).alloc _, h0, hT.lt, by omega, by omega, by omega, by simp⟩
  · have : posOf t (some t) = 0 := by simp [posOf]
    rw [this]
    exact ((Blk.new W 3 #[.int .i64 0]).alloc _).alloc _
  · exact (Blk.new' (w := W.alloc (.cells #[.int .i64 0] 3)) (by simp)).alloc _
  · cases hr
    exact ⟨Nat.le_refl _, by simp⟩
theorem posOf_le (t : List UInt8) (st : Option (List UInt8)) : posOf t st ≤ t.length := by
  unfold posOf; split <;> omega
section
variable {w0 w w' : World} {bt bi bs bm bx B1 : Nat} {t : List UInt8} {st st' : Option (List UInt8)} {nm : List UInt8} {VC VD : Value} {L : List Ins} {D : List Int}
theorem MO.name (h : MO w0 w bt bi bs bm B1 t st nm VC VD L D) (nm' : List UInt8) : MO w0 (w.setCell ⟨bm, 0, none⟩ (.string (ba nm'))) bt bi bs bm B1 t st nm' VC VD L D := by
  obtain ⟨o1, o2, o3, o4, o5, o6⟩ := h.ord
  exact ⟨h.below.setCell (p := ⟨bm, 0, none⟩) (by show _ ≤ bm; omega) _, ⟨h.nx.tx.far (p := ⟨bm, 0, none⟩) (by show bt ≠ bm; omega) _, h.nx.ix.far (p := ⟨bm, 0, none⟩) (by show bi ≠ bm; omega) _, h.nx.sx.far (p := ⟨bm, 0, none⟩) (by show bs ≠ bm; omega) _, h.nx.suf, h.nx.len⟩, h.md.set_ 0 _,
    ownsRow_setCell_below h.oc (a := ⟨bm, 0, none⟩) o5 _, ownsRow_setCell_below h.od (a := ⟨bm, 0, none⟩) o5 _, h.res.far (p := ⟨bm, 0, none⟩) (by show w0.heap.size ≠ bm; omega) _, o1, o2, o3, o4, o5, by simpa using o6⟩
theorem MO.skip (h : MO w0 w bt bi bs bm B1 t st nm VC VD L D) (p : Nat) (hp : posOf t st' = p) (hn : st'.isNone = st.isNone) (hs : ∀ r, st' = some r → r.length ≤ t.length ∧ r = t.drop (t.length - r.length)) : MO w0 (w.setCell ⟨bi, 0, none⟩ (.int .i64 (p : Nat))) bt bi bs bm B1 t st' nm VC VD L D := by
  have hx := h.nx.ix.set_ 0 (.int .i64 (p : Nat))
  refine h.next (w' := w.setCell ⟨bi, 0, none⟩ (.int .i64 (p : Nat))) ⟨h.nx.tx.far (p := ⟨bi, 0, none⟩) h.dist.1 _, ?_, ?_, hs, h.nx.len⟩ (Nx.of_i w bi bs _)
  · rw [hp]; exact hx
  · rw [hn]; exact h.nx.sx.far (p := ⟨bi, 0, none⟩) (Ne.symm h.dist.2.2) _
/-- A row has grown, and its slice is stored. -/
theorem MO.code {V : Value} {L' : List Ins} (h : MO w0 w bt bi bs bm B1 t st nm VC VD L D) (ho : w'.ownsRow B1 45 4 V L'.length (insCells L')) (hg : w.grownBy w' VC.ownBlock) : MO w0 (w'.setCell ⟨bm, 1, none⟩ V) bt bi bs bm B1 t st nm V VD L' D := by
  obtain ⟨o1, o2, o3, o4, o5, o6⟩ := h.ord
  have ht := Tch.of_grown h.oc hg
  have hm := h.md.tch ht (by decide)
  have ht2 := Tch.of_set (p := ⟨bm, 1, none⟩) hm V
  have hb1 : Below w0.heap.size w0 w' := h.below.grown hg h.below.size (fun q hq => by have := (h.oc.lt q hq).1; omega)
  exact ⟨hb1.setCell (p := ⟨bm, 1, none⟩) (by show _ ≤ bm; omega) _, ⟨(h.nx.tx.tch ht (by decide)).tch ht2 (by decide), (h.nx.ix.tch ht (by decide)).tch ht2 (by decide), (h.nx.sx.tch ht (by decide)).tch ht2 (by decide), h.nx.suf, h.nx.len⟩, hm.set_ 1 V,
    own_tch ho ht2 (by decide), own_tch (own_tch h.od ht (by decide)) ht2 (by decide), (h.res.tch ht (by decide)).far (p := ⟨bm, 1, none⟩) (by show w0.heap.size ≠ bm; omega) _, o1, o2, o3, o4, o5, by have := hg.size; simp; omega⟩
theorem MO.data {V : Value} {D' : List Int} (h : MO w0 w bt bi bs bm B1 t st nm VC VD L D) (ho : w'.ownsRow B1 3 1 V D'.length (intCells D')) (hg : w.grownBy w' VD.ownBlock) : MO w0 (w'.setCell ⟨bm, 2, none⟩ V) bt bi bs bm B1 t st nm VC V L D' := by
  obtain ⟨o1, o2, o3, o4, o5, o6⟩ := h.ord
  have kp : ∀ {q : Nat} {e : TypeId} {cs : Array Value}, Blk w q e cs → q < B1 → Blk w' q e cs := fun hq hlt => hq.grown hg (fun e => by have := (h.od.lt _ e.symm).1; omega)
  have ht := Tch.of_grown h.od hg
  have hm := h.md.tch ht (by decide)
  have ht2 := Tch.of_set (p := ⟨bm, 2, none⟩) hm V
  have hb1 : Below w0.heap.size w0 w' := h.below.grown hg h.below.size (fun q hq => by have := (h.od.lt q hq).1; omega)
  exact ⟨hb1.setCell (p := ⟨bm, 2, none⟩) (by show _ ≤ bm; omega) _, ⟨(kp h.nx.tx (by omega)).tch ht2 (by decide), (kp h.nx.ix (by omega)).tch ht2 (by decide), (kp h.nx.sx (by omega)).tch ht2 (by decide), h.nx.suf, h.nx.len⟩, hm.set_ 2 V,
    own_tch (own_tch h.oc ht (by decide)) ht2 (by decide), own_tch ho ht2 (by decide), (h.res.tch ht (by decide)).far (p := ⟨bm, 2, none⟩) (by show w0.heap.size ≠ bm; omega) _, o1, o2, o3, o4, o5, by have := hg.size; simp; omega⟩
end
def c3 (a b c d : Int) : Array Value := #[.int .i64 a, .int .i64 b, .int .i64 c, .int .i64 d]
/-- .. with an instruction under way in block bx. -/
structure RX (w0 W : World) (bt bi bs bm bx B1 : Nat) (t : List UInt8) (st st' : Option (List UInt8)) (nm : List UInt8) (VC VD : Value) (L : List Ins) (D : List Int) (cs cs' : Array Value) (b3 b6 : Bool) : Prop where
  mo : MO w0 W bt bi bs bm B1 t (if b3 then st' else st) nm VC VD L D
  x : Blk W bx 45 (if b6 then cs' else cs)
  hB : B1 ≤ bx
  ho : VC.ownBlock ≠ some bx
section
variable {w0 W W' : World} {bt bi bs bm bx B1 : Nat} {t : List UInt8} {st st' : Option (List UInt8)} {nm : List UInt8} {VC VD : Value} {L : List Ins} {D : List Int} {cs cs' : Array Value} {b3 b6 : Bool}
theorem RX.drew (h : RX w0 W bt bi bs bm bx B1 t st st' nm VC VD L D cs cs' b3 b6) : RX w0 W.drew bt bi bs bm bx B1 t st st' nm VC VD L D cs cs' b3 b6 :=
  ⟨h.mo.up (Below.drewN' (Below.refl _ _) 1), h.x.drew, h.hB, h.ho⟩
theorem RX.next (h : RX w0 W bt bi bs bm bx B1 t st st' nm VC VD L D cs cs' b3 b6) (h3 : b3 = false) (hR : NxtAt W' bt bi bs t st') (hg : Nx bi bs W W') : RX w0 W' bt bi bs bm bx B1 t st st' nm VC VD L D cs cs' true b6 := by
  have := h.mo.ord
  exact ⟨h.mo.next hR hg, h.x.nx hg (by have := h.hB; omega) (by have := h.hB; omega), h.hB, h.ho⟩
theorem RX.store {a b c d e : Int} (h : RX w0 W bt bi bs bm bx B1 t st st' nm VC VD L D (c3 a b c d) (c3 a b c e) b3 b6) (h6 : b6 = false) : RX w0 (W.setCell ⟨bx, 3, none⟩ (.int .i64 e)) bt bi bs bm bx B1 t st st' nm VC VD L D (c3 a b c d) (c3 a b c e) b3 true := by
  subst h6
  exact ⟨h.mo.far h.x h.hB h.ho 3 _, h.x.set_ 3 (.int .i64 e), h.hB, h.ho⟩
end
structure OJ27 (w0 : World) (bt bi bs bm bx B1 a3 : Nat) (x1 x2 x3 : Int) (t : List UInt8) (st : Option (List UInt8)) (nm : List UInt8) (VC VD : Value) (L : List Ins) (D : List Int) (listed : Array Bool) (W : World) (y80 y81 y82 y83 y84 y85 : Value) : Prop where
  f0 : listed.getD 0 true = true → y80 = .pointer (some ⟨bx, 3, none⟩)
  f1 : listed.getD 1 true = true → y81 = .int .i64 (256 * (a3 : Int))
  f2 : listed.getD 2 true = true → y82 = .func (.func 54) #[] #[.pointer (some ⟨bi, 0, none⟩), .pointer (some ⟨bt, 0, none⟩), .pointer (some ⟨bs, 0, none⟩)]
  f3 : listed.getD 3 true = true → y83 = .int .i64 (((numS 1 st).1 : Nat) : Int)
  f4 : listed.getD 4 true = true → y84 = .int .i64 (256 * (a3 : Int) + ((numS 1 st).1 : Nat))
  f5 : listed.getD 5 true = true → y85 = .pointer (some ⟨bx, 3, none⟩)
  f6 : listed.getD 6 true = true → True
  q6_4 : listed.getD 6 true = true → listed.getD 4 true = true
  q4_1 : listed.getD 4 true = true → listed.getD 1 true = true
  w : RX w0 W bt bi bs bm bx B1 t st (numS 1 st).2 nm VC VD L D (c3 x1 x2 x3 (256 * (a3 : Int))) (c3 x1 x2 x3 (256 * (a3 : Int) + ((numS 1 st).1 : Nat))) (listed.getD 3 true) (listed.getD 6 true)
noncomputable def oreg27C : Code := ((Tryd.f25.body.bind (regAt 27)).getD .skip)
set_option maxRecDepth 1000000 in
set_option maxHeartbeats 8000000 in
theorem oreg27 (w0 : World) (bt bi bs bm bx B1 a3 : Nat) (x1 x2 x3 : Int) (t : List UInt8) (st : Option (List UInt8)) (nm : List UInt8) (VC VD : Value) (L : List Ins) (D : List Int) {v0 v1 v2 v3 v4 v5 v6 v8 v9 v10 v12 v13 v14 v15 v16 v17 v18 v19 v20 v21 v22 v23 v24 v25 v26 v27 v28 v29 v30 v31 v32 v33 v34 v35 v36 v37 v38 v39 v40 v41 v42 v43 v44 v45 v46 v47 v48 v49 v50 v51 v52 v53 v54 v55 v56 v57 v58 v59 v60 v61 v62 v63 v64 v65 v66 v67 v68 v69 v70 v71 v72 v73 v74 v75 v76 v77 v78 v79 v80 v81 v82 v83 v84 v85 v86 v87 v88 v89 v90 v91 v92 v93 v94 v95 v96 v97 v98 v99 v100 v101 v102 v103 v104 v105 v106 v107 v108 v109 v110 v111 v112 v113 v114 v115 v116 v117 v118 v119 v120 v121 v122 v123 v124 v125 v126 v127 : Value} (wr : World) (Q : Exit → Act → World → Prop) (hd : RX w0 wr bt bi bs bm bx B1 t st (numS 1 st).2 nm VC VD L D (c3 x1 x2 x3 (256 * (a3 : Int))) (c3 x1 x2 x3 (256 * (a3 : Int) + ((numS 1 st).1 : Nat))) false false) (ha3 : a3 ≤ 255)
    (hQ : ∀ (listed : Array Bool) (W : World) (y80 y81 y82 y83 y84 y85 : Value), (∀ i, i < 7 → listed.getD i true = true) → OJ27 w0 bt bi bs bm bx B1 a3 x1 x2 x3 t st nm VC VD L D listed W y80 y81 y82 y83 y84 y85 → Q .normal ⟨#[v0, v1, v2, v3, v4, v5, v6, .func (.func 54) #[] #[.pointer (some ⟨bi, 0, none⟩), .pointer (some ⟨bt, 0, none⟩), .pointer (some ⟨bs, 0, none⟩)], v8, v9, v10, .pointer (some ⟨bx, 0, none⟩), v12, v13, v14, v15, v16, v17, v18, v19, v20, v21, v22, v23, v24, v25, v26, v27, v28, v29, v30, v31, v32, v33, v34, v35, v36, v37, v38, v39, v40, v41, v42, v43, v44, v45, v46, v47, v48, v49, v50, v51, v52, v53, v54, v55, v56, v57, v58, v59, v60, v61, v62, v63, v64, v65, v66, v67, v68, v69, v70, v71, v72, v73, v74, v75, v76, v77, v78, v79, y80, y81, y82, y83, y84, y85, v86, v87, v88, v89, v90, v91, v92, v93, v94, v95, v96, v97, v98, v99, v100, v101, v102, v103, v104, v105, v106, v107, v108, v109, v110, v111, v112, v113, v114, v115, v116, v117, v118, v119, v120, v121, v122, v123, v124, v125, v126, v127], []⟩ W) :
    Code.wp Tryd.prog oreg27C Q ⟨#[v0, v1, v2, v3, v4, v5, v6, .func (.func 54) #[] #[.pointer (some ⟨bi, 0, none⟩), .pointer (some ⟨bt, 0, none⟩), .pointer (some ⟨bs, 0, none⟩)], v8, v9, v10, .pointer (some ⟨bx, 0, none⟩), v12, v13, v14, v15, v16, v17, v18, v19, v20, v21, v22, v23, v24, v25, v26, v27, v28, v29, v30, v31, v32, v33, v34, v35, v36, v37, v38, v39, v40, v41, v42, v43, v44, v45, v46, v47, v48, v49, v50, v51, v52, v53, v54, v55, v56, v57, v58, v59, v60, v61, v62, v63, v64, v65, v66, v67, v68, v69, v70, v71, v72, v73, v74, v75, v76, v77, v78, v79, v80, v81, v82, v83, v84, v85, v86, v87, v88, v89, v90, v91, v92, v93, v94, v95, v96, v97, v98, v99, v100, v101, v102, v103, v104, v105, v106, v107, v108, v109, v110, v111, v112, v113, v114, v115, v116, v117, v118, v119, v120, v121, v122, v123, v124, v125, v126, v127], []⟩ wr := by
  have HQ := Lib.hid hQ
  clear hQ
  conv => arg 2; whnf
  refine wp_region_inv (fun listed a W => ∃ y80 y81 y82 y83 y84 y85, OJ27 w0 bt bi bs bm bx B1 a3 x1 x2 x3 t st nm VC VD L D listed W y80 y81 y82 y83 y84 y85 ∧ a = ⟨#[v0, v1, v2, v3, v4, v5, v6, .func (.func 54) #[] #[.pointer (some ⟨bi, 0, none⟩), .pointer (some ⟨bt, 0, none⟩), .pointer (some ⟨bs, 0, none⟩)], v8, v9, v10, .pointer (some ⟨bx, 0, none⟩), v12, v13, v14, v15, v16, v17, v18, v19, v20, v21, v22, v23, v24, v25, v26, v27, v28, v29, v30, v31, v32, v33, v34, v35, v36, v37, v38, v39, v40, v41, v42, v43, v44, v45, v46, v47, v48, v49, v50, v51, v52, v53, v54, v55, v56, v57, v58, v59, v60, v61, v62, v63, v64, v65, v66, v67, v68, v69, v70, v71, v72, v73, v74, v75, v76, v77, v78, v79, y80, y81, y82, y83, y84, y85, v86, v87, v88, v89, v90, v91, v92, v93, v94, v95, v96, v97, v98, v99, v100, v101, v102, v103, v104, v105, v106, v107, v108, v109, v110, v111, v112, v113, v114, v115, v116, v117, v118, v119, v120, v121, v122, v123, v124, v125, v126, v127], []⟩) (by kernel_rfl) (ord_of (by kernel_rfl)) ?start ?step ?fin
  case start => exact ⟨_, _, _, _, _, _, ⟨fun h => absurd h (by decide), fun h => absurd h (by decide), fun h => absurd h (by decide), fun h => absurd h (by decide), fun h => absurd h (by decide), fun h => absurd h (by decide), fun h => absurd h (by decide), fun h => absurd h (by decide), fun h => absurd h (by decide), hd.drew⟩, rfl⟩
  case step =>
    intro i o ho listed a W hl haf hI K hK
    obtain ⟨y80, y81, y82, y83, y84, y85, hJ, rfl⟩ := hI
    have hi : i < 7 := (Array.getElem?_eq_some_iff.1 ho).1
    have h16 : i = 0 ∨ i = 1 ∨ i = 2 ∨ i = 3 ∨ i = 4 ∨ i = 5 ∨ i = 6 := by omega
    have hq := (numS_le 1 st (by omega)).2 (by omega)
    rcases h16 with rfl | rfl | rfl | rfl | rfl | rfl | rfl
    · have ho' := Option.some.inj ho
      subst ho'
      have HJ := Lib.hid hJ
      clear hJ haf
      try unfold pt
      go_simp
      have hJ := HJ.out
      exact hK _ _ ⟨_, _, _, _, _, _, ⟨fun _ => rfl, fun x => hJ.f1 (upneR (by decide) x), fun x => hJ.f2 (upneR (by decide) x), fun x => hJ.f3 (upneR (by decide) x), fun x => hJ.f4 (upneR (by decide) x), fun x => hJ.f5 (upneR (by decide) x), fun x => hJ.f6 (upneR (by decide) x), fun x => by rw [upeqR (by decide)]; exact hJ.q6_4 (upneR (by decide) x), fun x => by rw [upeqR (by decide)]; exact hJ.q4_1 (upneR (by decide) x), by rw [upeqR (by decide), upeqR (by decide)]; exact hJ.w⟩, rfl⟩
    · have ho' := Option.some.inj ho
      subst ho'
      simp [Region.binds] at haf
      have p0 : listed.getD 0 true = true := waitsR (by simp [haf])
      obtain rfl := hJ.f0 p0
      have h6 : listed.getD 6 true = false := by
        rw [← Bool.not_eq_true]; intro e; have e := hJ.q4_1 (hJ.q6_4 e); rw [hl] at e; cases e
      have hx := hJ.w.x
      rw [h6] at hx
      have m1 := hx.cell 3
      simp [c3] at m1
      have HJ := Lib.hid hJ
      clear hJ haf
      try unfold pt
      go_simp
      have hJ := HJ.out
      exact hK _ _ ⟨_, _, _, _, _, _, ⟨fun x => hJ.f0 (upneR (by decide) x), fun _ => rfl, fun x => hJ.f2 (upneR (by decide) x), fun x => hJ.f3 (upneR (by decide) x), fun x => hJ.f4 (upneR (by decide) x), fun x => hJ.f5 (upneR (by decide) x), fun x => hJ.f6 (upneR (by decide) x), fun x => by rw [upeqR (by decide)]; exact hJ.q6_4 (upneR (by decide) x), fun _ => upselfR, by rw [upeqR (by decide), upeqR (by decide)]; exact hJ.w⟩, rfl⟩
    · have ho' := Option.some.inj ho
      subst ho'
      have HJ := Lib.hid hJ
      clear hJ haf
      try unfold pt
      go_simp
      have hJ := HJ.out
      exact hK _ _ ⟨_, _, _, _, _, _, ⟨fun x => hJ.f0 (upneR (by decide) x), fun x => hJ.f1 (upneR (by decide) x), fun _ => rfl, fun x => hJ.f3 (upneR (by decide) x), fun x => hJ.f4 (upneR (by decide) x), fun x => hJ.f5 (upneR (by decide) x), fun x => hJ.f6 (upneR (by decide) x), fun x => by rw [upeqR (by decide)]; exact hJ.q6_4 (upneR (by decide) x), fun x => by rw [upeqR (by decide)]; exact hJ.q4_1 (upneR (by decide) x), by rw [upeqR (by decide), upeqR (by decide)]; exact hJ.w⟩, rfl⟩
    · have ho' := Option.some.inj ho
      subst ho'
      simp [Region.binds] at haf
      have p2 : listed.getD 2 true = true := waitsR (by simp [haf])
      obtain rfl := hJ.f2 p2
      have hm := hJ.w.mo
      rw [hl] at hm
      have HJ := Lib.hid hJ
      clear hJ haf
      try unfold pt
      go_simp
      go_at_call 54
      refine (next_any bt bi bs t st _ hm.nx hm.dist).mono ?_
      rintro e' w2 ⟨rfl, hR, hg⟩
      have hJ := HJ.out
      exact hK _ _ ⟨_, _, _, _, _, _, ⟨fun x => hJ.f0 (upneR (by decide) x), fun x => hJ.f1 (upneR (by decide) x), fun x => hJ.f2 (upneR (by decide) x), fun _ => rfl, fun x => hJ.f4 (upneR (by decide) x), fun x => hJ.f5 (upneR (by decide) x), fun x => hJ.f6 (upneR (by decide) x), fun x => by rw [upeqR (by decide)]; exact hJ.q6_4 (upneR (by decide) x), fun x => by rw [upeqR (by decide)]; exact hJ.q4_1 (upneR (by decide) x), by rw [upselfR, upeqR (by decide)]; exact hJ.w.next hl hR hg⟩, rfl⟩
    · have ho' := Option.some.inj ho
      subst ho'
      simp [Region.binds] at haf
      have p1 : listed.getD 1 true = true := waitsR (by simp [haf])
      have p3 : listed.getD 3 true = true := waitsR (by simp [haf])
      obtain rfl := hJ.f1 p1
      obtain rfl := hJ.f3 p3
      have hwr : IntKind.i64.wrap (256 * (a3 : Int) + (((numS 1 st).1 : Nat) : Int)) = 256 * (a3 : Int) + (((numS 1 st).1 : Nat) : Int) := Go.IntWalk.i64_in _ (by omega)
      have HJ := Lib.hid hJ
      clear hJ haf
      try unfold pt
      go_simp
      have hJ := HJ.out
      exact hK _ _ ⟨_, _, _, _, _, _, ⟨fun x => hJ.f0 (upneR (by decide) x), fun x => hJ.f1 (upneR (by decide) x), fun x => hJ.f2 (upneR (by decide) x), fun x => hJ.f3 (upneR (by decide) x), fun _ => rfl, fun x => hJ.f5 (upneR (by decide) x), fun x => hJ.f6 (upneR (by decide) x), fun _ => upselfR, fun _ => by rw [upeqR (by decide)]; exact p1, by rw [upeqR (by decide), upeqR (by decide)]; exact hJ.w⟩, rfl⟩
    · have ho' := Option.some.inj ho
      subst ho'
      have HJ := Lib.hid hJ
      clear hJ haf
      try unfold pt
      go_simp
      have hJ := HJ.out
      exact hK _ _ ⟨_, _, _, _, _, _, ⟨fun x => hJ.f0 (upneR (by decide) x), fun x => hJ.f1 (upneR (by decide) x), fun x => hJ.f2 (upneR (by decide) x), fun x => hJ.f3 (upneR (by decide) x), fun x => hJ.f4 (upneR (by decide) x), fun _ => rfl, fun x => hJ.f6 (upneR (by decide) x), fun x => by rw [upeqR (by decide)]; exact hJ.q6_4 (upneR (by decide) x), fun x => by rw [upeqR (by decide)]; exact hJ.q4_1 (upneR (by decide) x), by rw [upeqR (by decide), upeqR (by decide)]; exact hJ.w⟩, rfl⟩
    · have ho' := Option.some.inj ho
      subst ho'
      simp [Region.binds] at haf
      have p4 : listed.getD 4 true = true := waitsR (by simp [haf])
      have p5 : listed.getD 5 true = true := waitsR (by simp [haf])
      obtain rfl := hJ.f4 p4
      obtain rfl := hJ.f5 p5
      have hx := hJ.w.x
      rw [hl] at hx
      have f3 := hx.frozen 3
      have m3 := hx.cell 3
      simp [c3] at m3
      have hw := hJ.w
      have HJ := Lib.hid hJ
      clear hJ haf
      try unfold pt
      go_simp
      have hJ := HJ.out
      exact hK _ _ ⟨_, _, _, _, _, _, ⟨fun x => hJ.f0 (upneR (by decide) x), fun x => hJ.f1 (upneR (by decide) x), fun x => hJ.f2 (upneR (by decide) x), fun x => hJ.f3 (upneR (by decide) x), fun x => hJ.f4 (upneR (by decide) x), fun x => hJ.f5 (upneR (by decide) x), fun _ => trivial, fun _ => by rw [upeqR (by decide)]; exact p4, fun x => by rw [upeqR (by decide)]; exact hJ.q4_1 (upneR (by decide) x), by rw [upeqR (by decide), upselfR]; exact hw.store hl⟩, rfl⟩
  case fin =>
    intro listed a W hall hI
    obtain ⟨y80, y81, y82, y83, y84, y85, hJ, rfl⟩ := hI
    exact HQ.out listed W _ _ _ _ _ _ hall hJ
end Go.Proofs.YtdjamdbamkhblabDoor
