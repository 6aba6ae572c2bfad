/- What byProcess counts, in plain terms: free ends, the first free pipe. No condition. The regions of readAt and writtenAt that load the node. No condition. By an AI agent (xread2.py). -/
import Derived.Test.YtdjamdbamkhblacGreatDoorG22
set_option maxHeartbeats 8000000
set_option maxRecDepth 1000000
namespace Go.Proofs.YtdjamdbamkhblacGreatDoor
open Go.RowKit
set_option linter.unusedVariables false
set_option linter.unusedSimpArgs false
def cntF (l:List Opn):Nat:=l.countP fun x=>x.kind == 0
theorem cntF_step {l:List Opn} {j:Nat} (hj:j<l.length):cntF (l.take (j+1))=cntF (l.take j)+(if l[j].kind == 0 then 1 else 0):=by
 unfold cntF;rw[←List.take_append_getElem hj,List.countP_append,List.countP_singleton]
theorem Hzq {α:Type} {q:α→Bool}:∀ (l:List α) (n:Nat),idxF q l n<0↔l.countP q=0
 | [],n=>by simp[idxF]
 | x::r,n=>by
   have:=Hzq (q:=q) r (n+1);rw[idxF,List.countP_cons];cases q x with
   | true=>simp only[if_true];omega
   | false=>simp only[Bool.false_eq_true,if_false,Nat.add_zero];exact this
theorem Nz1 {l:List Opn}:Bzc l<0↔cntF l=0:=Hzq l 0
theorem Kzn {l:List Opn} {i:Nat} (hi:i<l.length) (h0:l[i].kind=0) (y:Opn) (hy:y.kind≠0):Bzc (l.set i y)<0↔cntF l<2:=by
 have hy':(y.kind == 0)=false:=by rw[beq_eq_false_iff_ne];exact hy
 have h0':(l[i].kind == 0)=true:=by rw[h0];rfl
 have hp:0<l.countP (fun x:Opn=>x.kind == 0):=List.countP_pos_iff.2 ⟨l[i],List.getElem_mem hi,h0'⟩;unfold Bzc cntF;rw[Hzq,List.countP_set hi];simp only[hy',h0',if_true,Bool.false_eq_true,if_false];omega
theorem Izy {k:Krn} {j:Nat} (h:0≤pipF k j):∀ d,j+d≤6→pipF k (j+d)=pipF k j
 | 0,_=>rfl
 | d+1,hd=>by
   have:=Izy h d (by omega);rw[←Nat.add_assoc,Dzq (by omega),this,if_pos h]
theorem Pzi {k:Krn} {j:Nat} (hj:j<6) (h:pipF k j= -1) (hp:pipP k j=true):Bzd k=(j:Int):=by
 have h1:pipF k (j+1)=(j:Int):=by rw[Dzq hj,h,if_neg (by omega),if_pos hp]
 have:=Izy (k:=k) (j:=j+1) (by omega) (6 - (j+1)) (by omega);rw[show j+1+(6 - (j+1))=6 by omega,h1,Hzy] at this;exact this
theorem Ez5 {k:Krn} {p i:Nat} (hp:p<k.procs.length) (y:Opn):((setEnd k p i y).procs.getD p default).ends=k.procs[p].ends.set i y:=by
 rw[Czs hp,Az3 (by simpa using hp)];simp
theorem Nzu {k:Krn} {p:Nat} (hp:p<k.procs.length) (h:cntF k.procs[p].ends<2):Fz9 k p=(k,ansE 8):=by
 unfold Fz9;rw[Az3 hp];by_cases h1:Bzc k.procs[p].ends<0
 ·simp only
  rw[if_pos (.inl h1)]
 by_cases h2:Bzd k<0
 ·simp only
  rw[if_pos (.inr h2)]
 obtain⟨i,hi,he,hi0⟩:=Bzw (l:=k.procs[p].ends) (by omega);simp only;rw[if_neg (by omega),he,Int.toNat_natCast,Ez5 hp,if_pos ((Kzn hi hi0 ⟨2,Bzd k,0⟩ (by show (2:Int)≠0;decide)).2 h)]
theorem Mz6 {k:Krn} {p:Nat} (h:Bzd k<0):Fz9 k p=(k,ansE 8):=by
 unfold Fz9;simp only;rw[if_pos (.inr h)]
theorem Pzk {k:Krn} {p j:Nat} (hp:p<k.procs.length) (h:2≤cntF k.procs[p].ends) (hj:Bzd k=(j:Int)):
  ∃ i q,∃ hi:i<k.procs[p].ends.length,Bzc k.procs[p].ends=(i:Int)∧k.procs[p].ends[i].kind=0∧q<k.procs[p].ends.length∧Bzc ((setEnd k p i ⟨2,(j:Int),0⟩).procs.getD p default).ends=(q:Int)∧
   Fz9 k p=(setEnd (setEnd k p i ⟨2,(j:Int),0⟩) p q ⟨3,(j:Int),0⟩,ansN i):=by
 have h1:¬ Bzc k.procs[p].ends<0:=fun e=>by have:=Nz1.1 e;omega
 obtain⟨i,hi,he,hi0⟩:=Bzw (l:=k.procs[p].ends) (by omega);have h2:¬ Bzc ((setEnd k p i ⟨2,(j:Int),0⟩).procs.getD p default).ends<0:=by
  rw[Ez5 hp];intro e;have:=(Kzn hi hi0 ⟨2,(j:Int),0⟩ (by show (2:Int)≠0;decide)).1 e;omega
 obtain⟨q,hq,he2,_⟩:=Bzw (l:=((setEnd k p i ⟨2,(j:Int),0⟩).procs.getD p default).ends) (by omega);refine⟨i,q,hi,he,hi0,?_,he2,?_⟩
 ·rw[Ez5 hp] at hq
  simpa using hq
 ·unfold Fz9
  rw[Az3 hp];simp only;rw[hj,if_neg (by omega),he,Int.toNat_natCast,if_neg h2,he2,Int.toNat_natCast]
structure ReadAtJ (w0:World) (g b2 c2 nn bx nd:Nat) (y:Nod) (t0t t1t t2t t3t t4t t5t t6t t7t t8t t9t:Bool) (W:World) (y11 y83 y84 y85 y86 y87 y88 y89 y90:Value):Prop where
 f0:t0t=true→y83= .pointer (some ⟨g,0,none⟩)
 f1:t1t=true→y84= .pointer (some ⟨g,0,none⟩)
 f2:t2t=true→y85= .pointer (some ⟨g,2,none⟩)
 f3:t3t=true→y86= .slice (some ⟨b2,0,none⟩) nn c2
 f4:t4t=true→y87= .pointer (some ⟨bx,1,none⟩)
 f5:t5t=true→y88= .int .i64 (nd:Int)
 f6:t6t=true→y89= .pointer (some ⟨b2,nd*4,none⟩)
 f7:t7t=true→y90= .agg #[.string y.name, .int .i64 y.kind, .string y.data, .int .i64 y.unit]
 f8:t8t=true→∃ s:Nat,y11= .pointer (some ⟨s,0,none⟩)∧w0.heap.size≤s∧(t9t=false→Blk W s 49 #[.string ⟨#[]⟩, .int .i64 0, .string ⟨#[]⟩, .int .i64 0])
 f9:t9t=true→∃ s:Nat,y11= .pointer (some ⟨s,0,none⟩)∧w0.heap.size≤s∧Blk W s 49 #[.string y.name, .int .i64 y.kind, .string y.data, .int .i64 y.unit]
 q9_8:t9t=true→t8t=true
 w:Below w0.heap.size w0 W
noncomputable def Mz8:Code:=((Tryz.f67.body.bind (Czf 17)).getD .skip)
theorem Oz0 (w0:World) (g b2 c2 nn bx nd:Nat) (y:Nod) {v1 v2 v3 v4 v5 v6 v7 v8 v10 v11 v12 v13 v14 v15 v16 v17 v18 v19 v20 v21 v22 v23 v24 v25 v26 v27 v28 v29 v30 v31 v32 v33 v34 v35 v36 v37 v38 v39 v40 v41 v42 v43 v44 v45 v46 v47 v48 v49 v50 v51 v52 v53 v54 v55 v56 v57 v58 v59 v60 v61 v62 v63 v64 v65 v66 v67 v68 v69 v70 v71 v72 v73 v74 v75 v76 v77 v78 v79 v80 v81 v82 v83 v84 v85 v86 v87 v88 v89 v90 v91 v92 v93 v94 v95 v96 v97 v98 v99 v100 v101 v102 v103 v104 v105 v106 v107 v108 v109 v110 v111 v112 v113 v114 v115 v116 v117 v118 v119 v120 v121 v122 v123 v124 v125 v126 v127 v128 v129 v130 v131 v132 v133 v134 v135 v136 v137 v138 v139 v140 v141 v142 v143 v144 v145 v146 v147 v148:Value} (wr:World) (Q:Exit→Act→World→Prop) (hbs:Below w0.heap.size w0 wr.drew) (hlg:g<w0.heap.size) (hg2:w0.cell? ⟨g,2,none⟩=some (.slice (some ⟨b2,0,none⟩) nn c2)) (hlx:bx<w0.heap.size) (hx1:w0.cell? ⟨bx,1,none⟩=some (.int .i64 (nd:Int))) (hlb:b2<w0.heap.size) (hn0:w0.cell? ⟨b2,nd*4,none⟩=some (.string y.name)) (hn1:w0.cell? ⟨b2,nd*4+1,none⟩=some (.int .i64 y.kind)) (hn2:w0.cell? ⟨b2,nd*4+2,none⟩=some (.string y.data)) (hn3:w0.cell? ⟨b2,nd*4+3,none⟩=some (.int .i64 y.unit)) (hnd:nd<nn)
  (hQ:∀ (listed:Array Bool) (W:World) (y11 y83 y84 y85 y86 y87 y88 y89 y90:Value),(∀ i,i<10→listed.getD i true=true)→ReadAtJ w0 g b2 c2 nn bx nd y (listed.getD 0 true) (listed.getD 1 true) (listed.getD 2 true) (listed.getD 3 true) (listed.getD 4 true) (listed.getD 5 true) (listed.getD 6 true) (listed.getD 7 true) (listed.getD 8 true) (listed.getD 9 true) W y11 y83 y84 y85 y86 y87 y88 y89 y90→Q .normal ⟨#[.pointer (some ⟨g,0,none⟩),v1,v2,v3,v4,v5,v6,v7,v8, .pointer (some ⟨bx,0,none⟩),v10,y11,v12,v13,v14,v15,v16,v17,v18,v19,v20,v21,v22,v23,v24,v25,v26,v27,v28,v29,v30,v31,v32,v33,v34,v35,v36,v37,v38,v39,v40,v41,v42,v43,v44,v45,v46,v47,v48,v49,v50,v51,v52,v53,v54,v55,v56,v57,v58,v59,v60,v61,v62,v63,v64,v65,v66,v67,v68,v69,v70,v71,v72,v73,v74,v75,v76,v77,v78,v79,v80,v81,v82,y83,y84,y85,y86,y87,y88,y89,y90,v91,v92,v93,v94,v95,v96,v97,v98,v99,v100,v101,v102,v103,v104,v105,v106,v107,v108,v109,v110,v111,v112,v113,v114,v115,v116,v117,v118,v119,v120,v121,v122,v123,v124,v125,v126,v127,v128,v129,v130,v131,v132,v133,v134,v135,v136,v137,v138,v139,v140,v141,v142,v143,v144,v145,v146,v147,v148],[]⟩ W):
  Code.wp Tryz.prog Mz8 Q ⟨#[.pointer (some ⟨g,0,none⟩),v1,v2,v3,v4,v5,v6,v7,v8, .pointer (some ⟨bx,0,none⟩),v10,v11,v12,v13,v14,v15,v16,v17,v18,v19,v20,v21,v22,v23,v24,v25,v26,v27,v28,v29,v30,v31,v32,v33,v34,v35,v36,v37,v38,v39,v40,v41,v42,v43,v44,v45,v46,v47,v48,v49,v50,v51,v52,v53,v54,v55,v56,v57,v58,v59,v60,v61,v62,v63,v64,v65,v66,v67,v68,v69,v70,v71,v72,v73,v74,v75,v76,v77,v78,v79,v80,v81,v82,v83,v84,v85,v86,v87,v88,v89,v90,v91,v92,v93,v94,v95,v96,v97,v98,v99,v100,v101,v102,v103,v104,v105,v106,v107,v108,v109,v110,v111,v112,v113,v114,v115,v116,v117,v118,v119,v120,v121,v122,v123,v124,v125,v126,v127,v128,v129,v130,v131,v132,v133,v134,v135,v136,v137,v138,v139,v140,v141,v142,v143,v144,v145,v146,v147,v148],[]⟩ wr:=by
 have HQ:=Lib.hid hQ;clear hQ;conv=>arg 2;whnf
 refine Azw (fun listed a W=>∃ y11 y83 y84 y85 y86 y87 y88 y89 y90,ReadAtJ w0 g b2 c2 nn bx nd y (listed.getD 0 true) (listed.getD 1 true) (listed.getD 2 true) (listed.getD 3 true) (listed.getD 4 true) (listed.getD 5 true) (listed.getD 6 true) (listed.getD 7 true) (listed.getD 8 true) (listed.getD 9 true) W y11 y83 y84 y85 y86 y87 y88 y89 y90∧a=⟨#[.pointer (some ⟨g,0,none⟩),v1,v2,v3,v4,v5,v6,v7,v8, .pointer (some ⟨bx,0,none⟩),v10,y11,v12,v13,v14,v15,v16,v17,v18,v19,v20,v21,v22,v23,v24,v25,v26,v27,v28,v29,v30,v31,v32,v33,v34,v35,v36,v37,v38,v39,v40,v41,v42,v43,v44,v45,v46,v47,v48,v49,v50,v51,v52,v53,v54,v55,v56,v57,v58,v59,v60,v61,v62,v63,v64,v65,v66,v67,v68,v69,v70,v71,v72,v73,v74,v75,v76,v77,v78,v79,v80,v81,v82,y83,y84,y85,y86,y87,y88,y89,y90,v91,v92,v93,v94,v95,v96,v97,v98,v99,v100,v101,v102,v103,v104,v105,v106,v107,v108,v109,v110,v111,v112,v113,v114,v115,v116,v117,v118,v119,v120,v121,v122,v123,v124,v125,v126,v127,v128,v129,v130,v131,v132,v133,v134,v135,v136,v137,v138,v139,v140,v141,v142,v143,v144,v145,v146,v147,v148],[]⟩) (by kernel_rfl) (Fzs (by kernel_rfl)) ?start ?step ?fin
 case start=>
  refine⟨_,_,_,_,_,_,_,_,_,?_,rfl⟩;constructor
  all_goals first|exact hbs|exact fun _=>rfl|exact fun h=>absurd h (by decide)
 case step=>
  intro i o ho listed a W hl haf hI K hK;obtain⟨y11,y83,y84,y85,y86,y87,y88,y89,y90,hJ,rfl⟩:=hI;have hK:=fun (W':World) z11 z83 z84 z85 z86 z87 z88 z89 z90 h=>hK _ W' ⟨z11,z83,z84,z85,z86,z87,z88,z89,z90,h,rfl⟩
  simp only[Az2] at hK;have hi:i<10:=(Array.getElem?_eq_some_iff.1 ho).1;have h16:i=0∨i=1∨i=2∨i=3∨i=4∨i=5∨i=6∨i=7∨i=8∨i=9:=by omega
  rcases h16 with rfl|rfl|rfl|rfl|rfl|rfl|rfl|rfl|rfl|rfl
  all_goals
   have ho:=Option.some.inj ho;subst ho
   try simp[Region.binds] at haf
  ·
    go_simp;apply hK;exact { hJ with f0:=fun _=>rfl }
  ·
    obtain rfl:=hJ.f0 (Az0 (by simp[haf]));go_simp;apply hK;exact { hJ with f1:=fun _=>rfl }
  ·
    obtain rfl:=hJ.f1 (Az0 (by simp[haf]));go_simp;apply hK;exact { hJ with f2:=fun _=>rfl }
  ·
    obtain rfl:=hJ.f2 (Az0 (by simp[haf]));have e1:=(hJ.w.cell (p:=⟨g,2,none⟩) hlg).trans hg2;go_simp;apply hK;exact { hJ with f3:=fun _=>rfl }
  ·
    go_simp;apply hK;exact { hJ with f4:=fun _=>rfl }
  ·
    obtain rfl:=hJ.f4 (Az0 (by simp[haf]));have e1:=(hJ.w.cell (p:=⟨bx,1,none⟩) hlx).trans hx1;go_simp;apply hK;exact { hJ with f5:=fun _=>rfl }
  ·
    obtain rfl:=hJ.f3 (Az0 (by simp[haf]));obtain rfl:=hJ.f5 (Az0 (by simp[haf]));have hu1:(nd:Int)<(nn:Int):=by omega
    go_simp;apply hK;exact { hJ with f6:=fun _=>rfl }
  ·
    obtain rfl:=hJ.f6 (Az0 (by simp[haf]));have e0:=(hJ.w.cell (p:=⟨b2,nd*4,none⟩) hlb).trans hn0;have e1:=(hJ.w.cell (p:=⟨b2,nd*4+1,none⟩) hlb).trans hn1;have e2:=(hJ.w.cell (p:=⟨b2,nd*4+2,none⟩) hlb).trans hn2;have e3:=(hJ.w.cell (p:=⟨b2,nd*4+3,none⟩) hlb).trans hn3;go_simp;apply hK;exact { hJ with f7:=fun _=>rfl }
  ·
    go_simp;apply hK;exact { hJ with f8:=fun _=>⟨W.heap.size,rfl,hJ.w.size,fun _=>Blk.new _ _ _⟩,f9:=fun x=>by have e:=hJ.q9_8 x;rw[hl] at e;exact absurd e (by decide),q9_8:=fun _=>rfl,w:=hJ.w.alloc hJ.w.size _ }
  ·
    have p8:listed.getD 8 true=true:=Az0 (by simp[haf]);obtain⟨s8,rfl,hE8⟩:=hJ.f8 p8;obtain rfl:=hJ.f7 (Az0 (by simp[haf]));obtain⟨hge,hbl⟩:=hE8;have hbl:=hbl hl;obtain⟨m0,m1,m2,m3,fz0,fz1,fz2,fz3,hlt⟩:=hbl.a4;simp at m0 m1 m2 m3;have HL:=Lib.hid (Nzc (B:=w0.heap.size) hge hbl (.string y.name) (.int .i64 y.kind) (.string y.data) (.int .i64 y.unit));go_simp;have L:=HL.out;apply hK;exact { hJ with f8:=fun x=>by obtain⟨s,e1,e2⟩:=hJ.f8 x;exact⟨s,e1,⟨e2.1,tfR⟩⟩,f9:=fun _=>⟨s8,rfl,hge,L.1⟩,q9_8:=fun _=>p8,w:=hJ.w.trans L.2 }
 case fin=>
  intro listed a W hall hI;obtain⟨y11,y83,y84,y85,y86,y87,y88,y89,y90,hJ,rfl⟩:=hI;exact HQ.out listed W _ _ _ _ _ _ _ _ _ hall hJ
structure WrittenJ (w0:World) (g b2 c2 nn bx nd:Nat) (y:Nod) (t0t t1t t2t t3t t4t t5t t6t t7t t8t t9t:Bool) (W:World) (y11 y88 y89 y90 y91 y92 y93 y94 y95:Value):Prop where
 f0:t0t=true→y88= .pointer (some ⟨g,0,none⟩)
 f1:t1t=true→y89= .pointer (some ⟨g,0,none⟩)
 f2:t2t=true→y90= .pointer (some ⟨g,2,none⟩)
 f3:t3t=true→y91= .slice (some ⟨b2,0,none⟩) nn c2
 f4:t4t=true→y92= .pointer (some ⟨bx,1,none⟩)
 f5:t5t=true→y93= .int .i64 (nd:Int)
 f6:t6t=true→y94= .pointer (some ⟨b2,nd*4,none⟩)
 f7:t7t=true→y95= .agg #[.string y.name, .int .i64 y.kind, .string y.data, .int .i64 y.unit]
 f8:t8t=true→∃ s:Nat,y11= .pointer (some ⟨s,0,none⟩)∧w0.heap.size≤s∧(t9t=false→Blk W s 49 #[.string ⟨#[]⟩, .int .i64 0, .string ⟨#[]⟩, .int .i64 0])
 f9:t9t=true→∃ s:Nat,y11= .pointer (some ⟨s,0,none⟩)∧w0.heap.size≤s∧Blk W s 49 #[.string y.name, .int .i64 y.kind, .string y.data, .int .i64 y.unit]
 q9_8:t9t=true→t8t=true
 w:Below w0.heap.size w0 W
noncomputable def Kzd:Code:=((Tryz.f68.body.bind (Czf 16)).getD .skip)
theorem Fzf (w0:World) (g b2 c2 nn bx nd:Nat) (y:Nod) {v1 v2 v3 v4 v5 v6 v7 v8 v10 v11 v12 v13 v14 v15 v16 v17 v18 v19 v20 v21 v22 v23 v24 v25 v26 v27 v28 v29 v30 v31 v32 v33 v34 v35 v36 v37 v38 v39 v40 v41 v42 v43 v44 v45 v46 v47 v48 v49 v50 v51 v52 v53 v54 v55 v56 v57 v58 v59 v60 v61 v62 v63 v64 v65 v66 v67 v68 v69 v70 v71 v72 v73 v74 v75 v76 v77 v78 v79 v80 v81 v82 v83 v84 v85 v86 v87 v88 v89 v90 v91 v92 v93 v94 v95 v96 v97 v98 v99 v100 v101 v102 v103 v104 v105 v106 v107 v108 v109 v110 v111 v112 v113 v114 v115 v116 v117 v118 v119 v120 v121 v122 v123 v124 v125 v126 v127 v128 v129 v130 v131 v132 v133 v134 v135 v136 v137 v138 v139 v140 v141 v142 v143 v144 v145 v146 v147 v148 v149 v150 v151 v152 v153 v154 v155 v156 v157 v158 v159 v160 v161 v162 v163 v164 v165 v166 v167 v168 v169 v170 v171 v172 v173 v174 v175 v176 v177 v178 v179 v180 v181 v182 v183 v184 v185 v186 v187 v188 v189 v190 v191 v192 v193 v194 v195 v196 v197 v198 v199 v200 v201 v202 v203:Value} (wr:World) (Q:Exit→Act→World→Prop) (hbs:Below w0.heap.size w0 wr.drew) (hlg:g<w0.heap.size) (hg2:w0.cell? ⟨g,2,none⟩=some (.slice (some ⟨b2,0,none⟩) nn c2)) (hlx:bx<w0.heap.size) (hx1:w0.cell? ⟨bx,1,none⟩=some (.int .i64 (nd:Int))) (hlb:b2<w0.heap.size) (hn0:w0.cell? ⟨b2,nd*4,none⟩=some (.string y.name)) (hn1:w0.cell? ⟨b2,nd*4+1,none⟩=some (.int .i64 y.kind)) (hn2:w0.cell? ⟨b2,nd*4+2,none⟩=some (.string y.data)) (hn3:w0.cell? ⟨b2,nd*4+3,none⟩=some (.int .i64 y.unit)) (hnd:nd<nn)
  (hQ:∀ (listed:Array Bool) (W:World) (y11 y88 y89 y90 y91 y92 y93 y94 y95:Value),(∀ i,i<10→listed.getD i true=true)→WrittenJ w0 g b2 c2 nn bx nd y (listed.getD 0 true) (listed.getD 1 true) (listed.getD 2 true) (listed.getD 3 true) (listed.getD 4 true) (listed.getD 5 true) (listed.getD 6 true) (listed.getD 7 true) (listed.getD 8 true) (listed.getD 9 true) W y11 y88 y89 y90 y91 y92 y93 y94 y95→Q .normal ⟨#[.pointer (some ⟨g,0,none⟩),v1,v2,v3,v4,v5,v6,v7,v8, .pointer (some ⟨bx,0,none⟩),v10,y11,v12,v13,v14,v15,v16,v17,v18,v19,v20,v21,v22,v23,v24,v25,v26,v27,v28,v29,v30,v31,v32,v33,v34,v35,v36,v37,v38,v39,v40,v41,v42,v43,v44,v45,v46,v47,v48,v49,v50,v51,v52,v53,v54,v55,v56,v57,v58,v59,v60,v61,v62,v63,v64,v65,v66,v67,v68,v69,v70,v71,v72,v73,v74,v75,v76,v77,v78,v79,v80,v81,v82,v83,v84,v85,v86,v87,y88,y89,y90,y91,y92,y93,y94,y95,v96,v97,v98,v99,v100,v101,v102,v103,v104,v105,v106,v107,v108,v109,v110,v111,v112,v113,v114,v115,v116,v117,v118,v119,v120,v121,v122,v123,v124,v125,v126,v127,v128,v129,v130,v131,v132,v133,v134,v135,v136,v137,v138,v139,v140,v141,v142,v143,v144,v145,v146,v147,v148,v149,v150,v151,v152,v153,v154,v155,v156,v157,v158,v159,v160,v161,v162,v163,v164,v165,v166,v167,v168,v169,v170,v171,v172,v173,v174,v175,v176,v177,v178,v179,v180,v181,v182,v183,v184,v185,v186,v187,v188,v189,v190,v191,v192,v193,v194,v195,v196,v197,v198,v199,v200,v201,v202,v203],[]⟩ W):
  Code.wp Tryz.prog Kzd Q ⟨#[.pointer (some ⟨g,0,none⟩),v1,v2,v3,v4,v5,v6,v7,v8, .pointer (some ⟨bx,0,none⟩),v10,v11,v12,v13,v14,v15,v16,v17,v18,v19,v20,v21,v22,v23,v24,v25,v26,v27,v28,v29,v30,v31,v32,v33,v34,v35,v36,v37,v38,v39,v40,v41,v42,v43,v44,v45,v46,v47,v48,v49,v50,v51,v52,v53,v54,v55,v56,v57,v58,v59,v60,v61,v62,v63,v64,v65,v66,v67,v68,v69,v70,v71,v72,v73,v74,v75,v76,v77,v78,v79,v80,v81,v82,v83,v84,v85,v86,v87,v88,v89,v90,v91,v92,v93,v94,v95,v96,v97,v98,v99,v100,v101,v102,v103,v104,v105,v106,v107,v108,v109,v110,v111,v112,v113,v114,v115,v116,v117,v118,v119,v120,v121,v122,v123,v124,v125,v126,v127,v128,v129,v130,v131,v132,v133,v134,v135,v136,v137,v138,v139,v140,v141,v142,v143,v144,v145,v146,v147,v148,v149,v150,v151,v152,v153,v154,v155,v156,v157,v158,v159,v160,v161,v162,v163,v164,v165,v166,v167,v168,v169,v170,v171,v172,v173,v174,v175,v176,v177,v178,v179,v180,v181,v182,v183,v184,v185,v186,v187,v188,v189,v190,v191,v192,v193,v194,v195,v196,v197,v198,v199,v200,v201,v202,v203],[]⟩ wr:=by
 have HQ:=Lib.hid hQ;clear hQ;conv=>arg 2;whnf
 refine Azw (fun listed a W=>∃ y11 y88 y89 y90 y91 y92 y93 y94 y95,WrittenJ w0 g b2 c2 nn bx nd y (listed.getD 0 true) (listed.getD 1 true) (listed.getD 2 true) (listed.getD 3 true) (listed.getD 4 true) (listed.getD 5 true) (listed.getD 6 true) (listed.getD 7 true) (listed.getD 8 true) (listed.getD 9 true) W y11 y88 y89 y90 y91 y92 y93 y94 y95∧a=⟨#[.pointer (some ⟨g,0,none⟩),v1,v2,v3,v4,v5,v6,v7,v8, .pointer (some ⟨bx,0,none⟩),v10,y11,v12,v13,v14,v15,v16,v17,v18,v19,v20,v21,v22,v23,v24,v25,v26,v27,v28,v29,v30,v31,v32,v33,v34,v35,v36,v37,v38,v39,v40,v41,v42,v43,v44,v45,v46,v47,v48,v49,v50,v51,v52,v53,v54,v55,v56,v57,v58,v59,v60,v61,v62,v63,v64,v65,v66,v67,v68,v69,v70,v71,v72,v73,v74,v75,v76,v77,v78,v79,v80,v81,v82,v83,v84,v85,v86,v87,y88,y89,y90,y91,y92,y93,y94,y95,v96,v97,v98,v99,v100,v101,v102,v103,v104,v105,v106,v107,v108,v109,v110,v111,v112,v113,v114,v115,v116,v117,v118,v119,v120,v121,v122,v123,v124,v125,v126,v127,v128,v129,v130,v131,v132,v133,v134,v135,v136,v137,v138,v139,v140,v141,v142,v143,v144,v145,v146,v147,v148,v149,v150,v151,v152,v153,v154,v155,v156,v157,v158,v159,v160,v161,v162,v163,v164,v165,v166,v167,v168,v169,v170,v171,v172,v173,v174,v175,v176,v177,v178,v179,v180,v181,v182,v183,v184,v185,v186,v187,v188,v189,v190,v191,v192,v193,v194,v195,v196,v197,v198,v199,v200,v201,v202,v203],[]⟩) (by kernel_rfl) (Fzs (by kernel_rfl)) ?start ?step ?fin
 case start=>
  refine⟨_,_,_,_,_,_,_,_,_,?_,rfl⟩;constructor
  all_goals first|exact hbs|exact fun _=>rfl|exact fun h=>absurd h (by decide)
 case step=>
  intro i o ho listed a W hl haf hI K hK;obtain⟨y11,y88,y89,y90,y91,y92,y93,y94,y95,hJ,rfl⟩:=hI;have hK:=fun (W':World) z11 z88 z89 z90 z91 z92 z93 z94 z95 h=>hK _ W' ⟨z11,z88,z89,z90,z91,z92,z93,z94,z95,h,rfl⟩
  simp only[Az2] at hK;have hi:i<10:=(Array.getElem?_eq_some_iff.1 ho).1;have h16:i=0∨i=1∨i=2∨i=3∨i=4∨i=5∨i=6∨i=7∨i=8∨i=9:=by omega
  rcases h16 with rfl|rfl|rfl|rfl|rfl|rfl|rfl|rfl|rfl|rfl
  all_goals
   have ho:=Option.some.inj ho;subst ho
   try simp[Region.binds] at haf
  ·
    go_simp;apply hK;exact { hJ with f0:=fun _=>rfl }
  ·
    obtain rfl:=hJ.f0 (Az0 (by simp[haf]));go_simp;apply hK;exact { hJ with f1:=fun _=>rfl }
  ·
    obtain rfl:=hJ.f1 (Az0 (by simp[haf]));go_simp;apply hK;exact { hJ with f2:=fun _=>rfl }
  ·
    obtain rfl:=hJ.f2 (Az0 (by simp[haf]));have e1:=(hJ.w.cell (p:=⟨g,2,none⟩) hlg).trans hg2;go_simp;apply hK;exact { hJ with f3:=fun _=>rfl }
  ·
    go_simp;apply hK;exact { hJ with f4:=fun _=>rfl }
  ·
    obtain rfl:=hJ.f4 (Az0 (by simp[haf]));have e1:=(hJ.w.cell (p:=⟨bx,1,none⟩) hlx).trans hx1;go_simp;apply hK;exact { hJ with f5:=fun _=>rfl }
  ·
    obtain rfl:=hJ.f3 (Az0 (by simp[haf]));obtain rfl:=hJ.f5 (Az0 (by simp[haf]));have hu1:(nd:Int)<(nn:Int):=by omega
    go_simp;apply hK;exact { hJ with f6:=fun _=>rfl }
  ·
    obtain rfl:=hJ.f6 (Az0 (by simp[haf]));have e0:=(hJ.w.cell (p:=⟨b2,nd*4,none⟩) hlb).trans hn0;have e1:=(hJ.w.cell (p:=⟨b2,nd*4+1,none⟩) hlb).trans hn1;have e2:=(hJ.w.cell (p:=⟨b2,nd*4+2,none⟩) hlb).trans hn2;have e3:=(hJ.w.cell (p:=⟨b2,nd*4+3,none⟩) hlb).trans hn3;go_simp;apply hK;exact { hJ with f7:=fun _=>rfl }
  ·
    go_simp;apply hK;exact { hJ with f8:=fun _=>⟨W.heap.size,rfl,hJ.w.size,fun _=>Blk.new _ _ _⟩,f9:=fun x=>by have e:=hJ.q9_8 x;rw[hl] at e;exact absurd e (by decide),q9_8:=fun _=>rfl,w:=hJ.w.alloc hJ.w.size _ }
  ·
    have p8:listed.getD 8 true=true:=Az0 (by simp[haf]);obtain⟨s8,rfl,hE8⟩:=hJ.f8 p8;obtain rfl:=hJ.f7 (Az0 (by simp[haf]));obtain⟨hge,hbl⟩:=hE8;have hbl:=hbl hl;obtain⟨m0,m1,m2,m3,fz0,fz1,fz2,fz3,hlt⟩:=hbl.a4;simp at m0 m1 m2 m3;have HL:=Lib.hid (Nzc (B:=w0.heap.size) hge hbl (.string y.name) (.int .i64 y.kind) (.string y.data) (.int .i64 y.unit));go_simp;have L:=HL.out;apply hK;exact { hJ with f8:=fun x=>by obtain⟨s,e1,e2⟩:=hJ.f8 x;exact⟨s,e1,⟨e2.1,tfR⟩⟩,f9:=fun _=>⟨s8,rfl,hge,L.1⟩,q9_8:=fun _=>p8,w:=hJ.w.trans L.2 }
 case fin=>
  intro listed a W hall hI;obtain⟨y11,y88,y89,y90,y91,y92,y93,y94,y95,hJ,rfl⟩:=hI;exact HQ.out listed W _ _ _ _ _ _ _ _ _ hall hJ
end Go.Proofs.YtdjamdbamkhblacGreatDoor
