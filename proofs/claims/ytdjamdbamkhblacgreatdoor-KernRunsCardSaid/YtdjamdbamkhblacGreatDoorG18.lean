/- Bytes of one's own in a block of whatever mark: '[]byte(s)', appended to, copied into, handed back as a string. No condition. The drawn region of write that copies the new bytes into the file's. No condition. By an AI agent (xwcopy.py). The walk of the kernel's write at a plain file. Condition: the listed table. The kernel's write, all ways. Condition: the listed table, the run's contract (RunC). -/
import Derived.Lib.ConvBytes
import Derived.Lib.LazyBuf
import Derived.Lib.FrozenHead
import Derived.Test.YtdjamdbamkhblacGreatDoorG17
set_option maxHeartbeats 8000000
set_option maxRecDepth 1000000
namespace Go.Proofs.YtdjamdbamkhblacGreatDoor
open Go.RowKit
set_option linter.unusedVariables false
set_option linter.unusedSimpArgs false
theorem Kzk:(Tryz.prog.info? 5).map (fun i=>(i.zero,i.size,i.bytes))=some (some (.int .u8 0),1,1):=by kernel_rfl
theorem Oz6:∀ w:World,(Go.sizeOf 5).run Tryz.prog w= .ok 1 w:=fun w=>by
 obtain⟨i,hi,_,hs,_⟩:=info_parts Kzk;simp[sizeOf,typeInfo,hi,hs]
structure ByRow (W:World) (base g c:Nat) (R:List UInt8):Prop where
 lo:base≤g
 len:R.length≤c
 cap:c≤maxLen
 cell:∀ j (h:j<R.length),W.cell? ⟨g,j,none⟩=some (.int .u8 (R[j].toNat:Int))
 room:∀ j,j<c→(W.cell? ⟨g,j,none⟩).isSome=true
 free:∀ j,j<c→W.frozen? ⟨g,j,none⟩=false
 typ:∃ cs fr,W.heap[g]? =some (.cells cs 5 fr)
theorem ByRow.lt {W:World} {base g c:Nat} {R:List UInt8} (h:ByRow W base g c R):g<W.heap.size:=by
 obtain⟨_,_,h⟩:=h.typ;exact(Array.getElem?_eq_some_iff.1 h).1
theorem Jzx {W W':World} {g:Nat} (h:W'.heap[g]? =W.heap[g]?) (j:Nat):W'.frozen? ⟨g,j,none⟩=W.frozen? ⟨g,j,none⟩:=by
 simp only[World.frozen?,h]
theorem Izp {W W':World} {g:Nat} (h:W'.heap[g]? =W.heap[g]?) (j:Nat):W'.cell? ⟨g,j,none⟩=W.cell? ⟨g,j,none⟩:=by
 simp only[World.cell?,h]
theorem ByRow.keep {W W':World} {base g c:Nat} {R:List UInt8} (h:ByRow W base g c R) (hk:W'.heap[g]? =W.heap[g]?):ByRow W' base g c R:=
 ⟨h.lo,h.len,h.cap,fun j hj=>(Izp hk j).trans (h.cell j hj),fun j hj=>by rw[Izp hk];exact h.room j hj,fun j hj=>(Jzx hk j).trans (h.free j hj),by rw[hk];exact h.typ⟩
theorem ByRow.below {W W':World} {base g c:Nat} {R:List UInt8} (h:ByRow W base g c R) (hb:Below W.heap.size W W'):ByRow W' base g c R:=h.keep (hb.block g h.lt)
theorem Tch.of_setF {t:TypeId} {w:World} {p:Addr} (h:∃ cs fr,w.heap[p.block]? =some (.cells cs t fr)) (u:Value):Tch t w (w.setCell p u):=
 ⟨rfl,rfl,rfl,by simp,fun q _ hne=>Below.heap_setCell w p u q fun e=>by subst e;obtain⟨cs,fr,h⟩:=h;exact hne _ _ h⟩
theorem Sz2 {t:TypeId} {w:World} {g o:Nat} (h:∃ cs fr,w.heap[g]? =some (.cells cs t fr)) (u:Value):∃ cs fr,(w.setCell ⟨g,o,none⟩ u).heap[g]? =some (.cells cs t fr):=by
 obtain⟨cs,fr,h⟩:=h;rw[setCell_eq_setRow w g o cs t fr u h];exact⟨_,_,setRow_heap w g cs _ t _ h⟩
theorem ByRow.set {W:World} {base g c n:Nat} {R R':List UInt8} (h:ByRow W base g c R) (hn:n<c) (x:UInt8) (hl:R'.length≤c) (hR:∀ j (hj:j<R'.length),(n=j∧R'[j]=x)∨(n≠j∧∃ h:j<R.length,R'[j]=R[j])):
  ByRow (W.setCell ⟨g,n,none⟩ (.int .u8 (x.toNat:Int))) base g c R'∧Tch 5 W (W.setCell ⟨g,n,none⟩ (.int .u8 (x.toNat:Int))):=by
 refine⟨⟨h.lo,hl,h.cap,fun j hj=>?_,fun j hj=>?_,fun j hj=>?_,Sz2 h.typ _⟩,Tch.of_setF (p:=⟨g,n,none⟩) h.typ _⟩
 ·rcases hR j hj with⟨rfl,e⟩|⟨hne,hj',e⟩
  ·obtain⟨u,hu⟩:=Option.isSome_iff_exists.1 (h.room n hn)
   rw[e];exact World.cell?_setCell_same _ _ _ hu
  ·rw[e]
   exact(World.cell?_setCell_other _ _ _ _ (by intro h;injection h with _ h _;omega)).trans (h.cell j hj')
 ·by_cases e:n=j
  ·subst e
   obtain⟨u,hu⟩:=Option.isSome_iff_exists.1 (h.room n hn);rw[World.cell?_setCell_same _ _ _ hu];rfl
  ·rw[World.cell?_setCell_other _ _ _ _ (by intro h;injection h with _ h _;omega)]
   exact h.room j hj
 ·rw[World.frozen?_setCell]
  exact h.free j hj
theorem Qzr (W:World) (base:Nat) (s:ByteArray) (hb:base≤W.heap.size) (hs:s.size≤maxLen):∃ cap,(convert 9 112 (.string s)).run Tryz.prog W= .ok (.slice (some ⟨W.heap.size,0,none⟩) s.data.toList.length cap) (Lib.bytesWorld W 5 s)∧
  ByRow (Lib.bytesWorld W 5 s) base W.heap.size cap s.data.toList∧Below W.heap.size W (Lib.bytesWorld W 5 s):=by
 have hn:=Lib.bytesWorld_at_new W 5 s;have hge:=grownCap_ge W s.size 0 5;have hsz:(Lib.bytesCells W 5 s).size=grownCap W s.size 0 5:=by
  have:s.data.size=s.size:=rfl;simp only[Lib.bytesCells,Array.size_append,Array.size_map,Array.size_replicate];omega
 refine⟨grownCap W s.size 0 5,?_,⟨hb,by simpa using hge,grownCap_le_maxLen W s.size 0 5 hs,fun j hj=>?_,fun j hj=>?_,fun j hj=>?_,⟨_,_,hn⟩⟩,⟨rfl,rfl,rfl,by rw[Lib.bytesWorld_size];omega,fun k hk=>Lib.bytesWorld_at_old W _ s k hk⟩⟩
 ·rw[show s.data.toList.length=s.size by simp]
  exact Lib.run_convert_string_bytes W 9 112 5 s Tryz.underlying9 Tryz.underlying112 Tryz.underlying5
 ·rw[Lib.bytesWorld_cell W _ s j (by simpa using hj)]
  simp[List.getD,List.getElem?_eq_getElem hj]
 ·rw[cell_of_row _ _ _ _ _ _ hn,Array.getElem?_eq_getElem (by omega)]
  rfl
 ·simp[World.frozen?,hn]
  omega
section
variable {P:Program}
theorem Nz0 {w:World} {base g c:Nat} {R:List UInt8} (h:ByRow w base g c R) (hR:R.length+1≤100000) (hb:base≤w.heap.size) (a:Addr) (m:Nat) (x:UInt8) (hx:w.cell? a=some (.int .u8 (x.toNat:Int))):
  ∃ g' c' w',(Builtin.append_ #[112,112] 112 #[.slice (some ⟨g,0,none⟩) R.length c, .slice (some a) 1 m]).run Tryz.prog w= .ok (.slice (some ⟨g',0,none⟩) (R.length+1) c') w'∧ByRow w' base g' c' (R++ [x])∧Tch 5 w w'∧Below base w w':=by
 obtain⟨i,hi,hz,hs1,hby⟩:=info_parts Kzk;have hU:=Tryz.underlying112;have hnews:∀ j u,[Value.int .u8 (x.toNat:Int)][j]? =some u→w.cell? (a.add j)=some u:=fun j u hu=>by
  match j,hu with
  | 0,hu=>simp at hu;subst hu;rw[show a.add 0=a by simp[Addr.add]];exact hx
 by_cases hroom:R.length+1≤c
 ·have hf:=run_firstCells_some (P:=Tryz.prog) w i.size 1 a 1 m [Value.int .u8 (x.toNat:Int)] (by rw[hs1];rfl) hnews
  have hst:=run_storeCells_cells (P:=Tryz.prog) g R.length [Value.int .u8 (x.toNat:Int)] 0 w (fun j hj=>h.room _ (by simp at hj;omega)) (fun j hj=>h.free _ (by simp at hj;omega)) (fun v hv=>by simp at hv;subst hv;rfl);obtain⟨h1,h2⟩:=h.set (n:=R.length) (by omega) x (R':=R++ [x]) (by simp;omega) (fun j hj=>by
   by_cases e:j=R.length
   ·subst e;exact .inl ⟨rfl,by simp⟩
   ·have hj':j<R.length:=by simp at hj;omega
    exact .inr ⟨by omega,hj',List.getElem_append_left hj'⟩)
  refine⟨g,c,_,?_,h1,h2,(Below.refl base w).setCell (p:=⟨g,R.length,none⟩) h.lo _⟩;simp only[Nat.add_zero] at hst;rw[hs1] at hf;simp[Builtin.append_,run_underlying hU,sizeOf,typeInfo,hi,hs1,Builtin.lenOf,hroom,hf,Addr.add_lit,hst,World.setCells]
 ·have hr:=run_append_grow (P:=Tryz.prog) w 112 112 5 i (.int .u8 0) hU hi hz ⟨g,0,none⟩ R.length c (R.map fun b=>Value.int .u8 (b.toNat:Int)) (by rw[hs1];simp) (fun j u hu=>by
    rw[add_plain,Nat.zero_add];simp only[List.getElem?_map,Option.map_eq_some_iff] at hu;obtain⟨b,hb,rfl⟩:=hu;obtain⟨hj,rfl⟩:=List.getElem?_eq_some_iff.1 hb;exact h.cell j hj) a 1 m [Value.int .u8 (x.toNat:Int)] (by rw[hs1];rfl) hnews (by omega) (by omega) (growslice_fits (by omega) (by rw[hby];omega))
  have hge:=grownCap_ge w (R.length+1) c 5;have hle:=grownCap_le_maxLen w (R.length+1) c 5 (by unfold maxLen;omega);have hn:=heap_alloc_new w.drew (.cells ((R.map fun b=>Value.int .u8 (b.toNat:Int)).toArray++ [Value.int .u8 (x.toNat:Int)].toArray++Builtin.zeroCells (Value.int .u8 0).cells (grownCap w (R.length+1) c 5 - (R.length+1))) 5);have hz1:(Value.int IntKind.u8 0).cells.size=1:=rfl;rw[show w.drew.heap.size=w.heap.size from rfl] at hn;refine⟨w.heap.size,_,_,hr,⟨hb,by simpa using hge,hle,fun j hj=>?_,fun j hj=>?_,fun j hj=>?_,⟨_,_,hn⟩⟩,⟨rfl,rfl,rfl,by simp,fun q hq _=>heap_alloc_old w.drew _ hq⟩,⟨rfl,rfl,rfl,by simp,fun q hq=>heap_alloc_old w.drew _ (by have:w.drew.heap.size=w.heap.size:=rfl;omega)⟩⟩
  ·have hj2:j<R.length+1:=by simpa using hj
   rw[cell_of_row _ _ _ _ _ _ hn,Array.getElem?_append_left (by simp;omega)];simp only[List.append_toArray,List.getElem?_toArray];rw[show [Value.int .u8 (x.toNat:Int)]=[x].map fun b=>Value.int .u8 (b.toNat:Int) from rfl, ←List.map_append,List.getElem?_map,List.getElem?_eq_getElem hj];rfl
  ·rw[cell_of_row _ _ _ _ _ _ hn,Array.getElem?_eq_getElem (by simp only[Array.size_append,List.size_toArray,List.length_map,size_zeroCells,hz1,List.length_cons,List.length_nil];omega)]
   rfl
  ·simp only[World.frozen?,hn]
   simp
end
theorem ByRow.sets {base g c:Nat}:∀ (l:List UInt8) (o:Nat) (W:World) (R:List UInt8),ByRow W base g c R→o+l.length≤R.length→
  ByRow (W.setCells g o (l.map fun x=>Value.int .u8 (x.toNat:Int))) base g c (R.take o++l++R.drop (o+l.length))∧Tch 5 W (W.setCells g o (l.map fun x=>Value.int .u8 (x.toNat:Int)))∧Below base W (W.setCells g o (l.map fun x=>Value.int .u8 (x.toNat:Int)))
 | [],o,W,R,h,_=>by
   simp only[List.map_nil,World.setCells,List.append_nil,List.length_nil,Nat.add_zero,List.take_append_drop];exact⟨h,⟨rfl,rfl,rfl,Nat.le_refl _,fun _ _ _=>rfl⟩, .refl _ _⟩
 | x::l,o,W,R,h,hl=>by
   simp only[List.length_cons] at hl;obtain⟨h1,h2⟩:=h.set (n:=o) (R':=R.set o x) (by have:=h.len;omega) x (by rw[List.length_set];exact h.len) (fun j hj=>by
    by_cases e:o=j
    ·subst e;exact .inl ⟨rfl,List.getElem_set_self _⟩
    ·exact .inr ⟨e,by simpa using hj,List.getElem_set_ne e _⟩)
   obtain⟨h3,h4,h5⟩:=ByRow.sets l (o+1) _ (R.set o x) h1 (by rw[List.length_set];omega);simp only[List.map_cons,World.setCells];refine⟨?_,h2.trans h4,((Below.refl base W).setCell (p:=⟨g,o,none⟩) h.lo _).trans h5⟩;have e:(R.set o x).take (o+1)++l++(R.set o x).drop (o+1+l.length)=R.take o++x::l++R.drop (o+(l.length+1)):=by
    have e1:(R.set o x).take (o+1)=R.take o++ [x]:=by
     rw[List.set_eq_take_append_cons_drop,if_pos (by omega),List.take_append,List.take_of_length_le (by simp;omega)];rw[List.length_take,Nat.min_eq_left (by omega),show o+1 - o=1 by omega];rfl
    rw[List.drop_set_of_lt (by omega),e1,show o+1+l.length=o+(l.length+1) by omega];simp
   rw[List.length_cons, ←e];exact h3
theorem Ozx {W:World} {base g c cap:Nat} {R:List UInt8} (h:ByRow W base g c R):
  (convert 112 9 (.slice (some ⟨g,0,none⟩) R.length cap)).run Tryz.prog W= .ok (.string ⟨R.toArray⟩) W:=by
 have e:=run_convert_bytes_arg W 112 5 Tryz.underlying112 Tryz.underlying5 g 0 R.length cap (R.map fun x=>(x.toNat:Int)) (by simp) (fun i hi=>by
  rw[Nat.zero_add,h.cell i hi];simp[List.getD,List.getElem?_eq_getElem hi]) 9 Tryz.underlying9
 rw[e,Hzv,List.map_map];have:(fun n=>u8 n.toNat) ∘ (fun x:UInt8=>(x.toNat:Int))=id:=by
  funext x
  simp[u8]
 rw[this,List.map_id];rfl
structure WCJ (w0:World) (gb n c be i p m:Nat) (sb:ByteArray) (t0t t1t t2t t3t t4t t5t t6t t7t t8t t9t:Bool) (W:World) (y144 y145 y146 y147 y148 y149 y150 y151 y152 y153:Value):Prop where
 f0:t0t=true→y144= .slice (some ⟨gb,0,none⟩) n c
 f1:t1t=true→y145= .pointer (some ⟨be,i*3,none⟩)
 f2:t2t=true→y146= .pointer (some ⟨be,i*3,none⟩)
 f3:t3t=true→y147= .pointer (some ⟨be,i*3+2,none⟩)
 f4:t4t=true→y148= .int .i64 (p:Int)
 f5:t5t=true→y149= .slice (some ⟨gb,p,none⟩) (n - p) (c - p)
 f6:t6t=true→y150= .string sb
 f7:t7t=true→y151= .int .i64 (m:Int)
 f8:t8t=true→y152= .string (cutS sb 0 m)
 f9:t9t=true→∃ s:Unit,y153=goInt (cutS sb 0 m).size∧W=w0.setCells gb p ((cutS sb 0 m).data.toList.map fun x=>Value.int .u8 (x.toNat:Int))
 q9_5:t9t=true→t5t=true
 q5_4:t5t=true→t4t=true
 w:t9t=false→W=w0
noncomputable def Mzh:Code:=((Tryz.f56.body.bind (Czf 30)).getD .skip)
theorem Ozi (w0:World) (gb n c be i p m:Nat) (sb:ByteArray) {v0 v3 v4 v5 v6 v7 v8 v9 v10 v11 v12 v13 v16 v17 v18 v19 v20 v21 v22 v23 v24 v25 v26 v27 v28 v29 v30 v31 v32 v33 v34 v35 v36 v37 v38 v39 v40 v41 v42 v43 v44 v45 v46 v47 v48 v49 v50 v51 v52 v53 v54 v55 v56 v57 v58 v59 v60 v61 v62 v63 v64 v65 v66 v67 v68 v69 v70 v71 v72 v73 v74 v75 v76 v77 v78 v79 v80 v81 v82 v83 v84 v85 v86 v87 v88 v89 v90 v91 v92 v93 v94 v95 v96 v97 v98 v99 v100 v101 v102 v103 v104 v105 v106 v107 v108 v109 v110 v111 v112 v113 v114 v115 v116 v117 v118 v119 v120 v121 v122 v123 v124 v125 v126 v127 v128 v129 v130 v131 v132 v133 v134 v135 v136 v137 v138 v139 v140 v141 v142 v143 v144 v145 v146 v147 v148 v149 v150 v151 v152 v153 v154 v155 v156 v157 v158 v159 v160 v161 v162 v163 v164 v165 v166 v167:Value} (wr:World) (Q:Exit→Act→World→Prop) (hlb:be<w0.heap.size) (hp3:w0.cell? ⟨be,i*3+2,none⟩=some (.int .i64 (p:Int))) (hpn:p<n) (hnc:n≤c) (hms:m≤sb.size) (hc5:c≤maxLen) (hle:(cutS sb 0 m).size≤n - p) (hcc:∀ j,j<(cutS sb 0 m).size→(w0.cell? ⟨gb,p+j,none⟩).isSome=true) (hff:∀ j,j<(cutS sb 0 m).size→w0.frozen? ⟨gb,p+j,none⟩=false) (hw00:wr.drew=w0)
  (hQ:∀ (listed:Array Bool) (W:World) (y144 y145 y146 y147 y148 y149 y150 y151 y152 y153:Value),(∀ i,i<10→listed.getD i true=true)→WCJ w0 gb n c be i p m sb (listed.getD 0 true) (listed.getD 1 true) (listed.getD 2 true) (listed.getD 3 true) (listed.getD 4 true) (listed.getD 5 true) (listed.getD 6 true) (listed.getD 7 true) (listed.getD 8 true) (listed.getD 9 true) W y144 y145 y146 y147 y148 y149 y150 y151 y152 y153→Q .normal ⟨#[v0, .pointer (some ⟨be,i*3,none⟩), .string sb,v3,v4,v5,v6,v7,v8,v9,v10,v11,v12,v13, .int .i64 (m:Int), .slice (some ⟨gb,0,none⟩) n c,v16,v17,v18,v19,v20,v21,v22,v23,v24,v25,v26,v27,v28,v29,v30,v31,v32,v33,v34,v35,v36,v37,v38,v39,v40,v41,v42,v43,v44,v45,v46,v47,v48,v49,v50,v51,v52,v53,v54,v55,v56,v57,v58,v59,v60,v61,v62,v63,v64,v65,v66,v67,v68,v69,v70,v71,v72,v73,v74,v75,v76,v77,v78,v79,v80,v81,v82,v83,v84,v85,v86,v87,v88,v89,v90,v91,v92,v93,v94,v95,v96,v97,v98,v99,v100,v101,v102,v103,v104,v105,v106,v107,v108,v109,v110,v111,v112,v113,v114,v115,v116,v117,v118,v119,v120,v121,v122,v123,v124,v125,v126,v127,v128,v129,v130,v131,v132,v133,v134,v135,v136,v137,v138,v139,v140,v141,v142,v143,y144,y145,y146,y147,y148,y149,y150,y151,y152,y153,v154,v155,v156,v157,v158,v159,v160,v161,v162,v163,v164,v165,v166,v167],[]⟩ W):
  Code.wp Tryz.prog Mzh Q ⟨#[v0, .pointer (some ⟨be,i*3,none⟩), .string sb,v3,v4,v5,v6,v7,v8,v9,v10,v11,v12,v13, .int .i64 (m:Int), .slice (some ⟨gb,0,none⟩) n c,v16,v17,v18,v19,v20,v21,v22,v23,v24,v25,v26,v27,v28,v29,v30,v31,v32,v33,v34,v35,v36,v37,v38,v39,v40,v41,v42,v43,v44,v45,v46,v47,v48,v49,v50,v51,v52,v53,v54,v55,v56,v57,v58,v59,v60,v61,v62,v63,v64,v65,v66,v67,v68,v69,v70,v71,v72,v73,v74,v75,v76,v77,v78,v79,v80,v81,v82,v83,v84,v85,v86,v87,v88,v89,v90,v91,v92,v93,v94,v95,v96,v97,v98,v99,v100,v101,v102,v103,v104,v105,v106,v107,v108,v109,v110,v111,v112,v113,v114,v115,v116,v117,v118,v119,v120,v121,v122,v123,v124,v125,v126,v127,v128,v129,v130,v131,v132,v133,v134,v135,v136,v137,v138,v139,v140,v141,v142,v143,v144,v145,v146,v147,v148,v149,v150,v151,v152,v153,v154,v155,v156,v157,v158,v159,v160,v161,v162,v163,v164,v165,v166,v167],[]⟩ wr:=by
 have HQ:=Lib.hid hQ;clear hQ;conv=>arg 2;whnf
 refine Azj (fun listed a W=>∃ y144 y145 y146 y147 y148 y149 y150 y151 y152 y153,WCJ w0 gb n c be i p m sb (listed.getD 0 true) (listed.getD 1 true) (listed.getD 2 true) (listed.getD 3 true) (listed.getD 4 true) (listed.getD 5 true) (listed.getD 6 true) (listed.getD 7 true) (listed.getD 8 true) (listed.getD 9 true) W y144 y145 y146 y147 y148 y149 y150 y151 y152 y153∧a=⟨#[v0, .pointer (some ⟨be,i*3,none⟩), .string sb,v3,v4,v5,v6,v7,v8,v9,v10,v11,v12,v13, .int .i64 (m:Int), .slice (some ⟨gb,0,none⟩) n c,v16,v17,v18,v19,v20,v21,v22,v23,v24,v25,v26,v27,v28,v29,v30,v31,v32,v33,v34,v35,v36,v37,v38,v39,v40,v41,v42,v43,v44,v45,v46,v47,v48,v49,v50,v51,v52,v53,v54,v55,v56,v57,v58,v59,v60,v61,v62,v63,v64,v65,v66,v67,v68,v69,v70,v71,v72,v73,v74,v75,v76,v77,v78,v79,v80,v81,v82,v83,v84,v85,v86,v87,v88,v89,v90,v91,v92,v93,v94,v95,v96,v97,v98,v99,v100,v101,v102,v103,v104,v105,v106,v107,v108,v109,v110,v111,v112,v113,v114,v115,v116,v117,v118,v119,v120,v121,v122,v123,v124,v125,v126,v127,v128,v129,v130,v131,v132,v133,v134,v135,v136,v137,v138,v139,v140,v141,v142,v143,y144,y145,y146,y147,y148,y149,y150,y151,y152,y153,v154,v155,v156,v157,v158,v159,v160,v161,v162,v163,v164,v165,v166,v167],[]⟩) (by kernel_rfl) (Czi (by kernel_rfl)) ?start ?step ?fin
 case start=>
  refine⟨_,_,_,_,_,_,_,_,_,_,?_,rfl⟩;constructor
  all_goals first|exact fun _=>hw00|exact fun _=>rfl|exact fun h=>absurd h (by decide)
 case step=>
  intro i o ho listed a W hl haf hI K hK;obtain⟨y144,y145,y146,y147,y148,y149,y150,y151,y152,y153,hJ,rfl⟩:=hI;have hK:=fun (W':World) z144 z145 z146 z147 z148 z149 z150 z151 z152 z153 h=>hK _ W' ⟨z144,z145,z146,z147,z148,z149,z150,z151,z152,z153,h,rfl⟩
  simp only[Az2] at hK;have hi:i<10:=(Array.getElem?_eq_some_iff.1 ho).1;have h16:i=0∨i=1∨i=2∨i=3∨i=4∨i=5∨i=6∨i=7∨i=8∨i=9:=by omega
  rcases h16 with rfl|rfl|rfl|rfl|rfl|rfl|rfl|rfl|rfl|rfl
  all_goals
   have ho:=Option.some.inj ho;subst ho
   try simp[Region.binds] at haf
  ·
    go_simp;apply hK;exact { hJ with f0:=fun _=>rfl }
  ·
    go_simp;apply hK;exact { hJ with f1:=fun _=>rfl }
  ·
    obtain rfl:=hJ.f1 (Az0 (by simp[haf]));go_simp;apply hK;exact { hJ with f2:=fun _=>rfl }
  ·
    obtain rfl:=hJ.f2 (Az0 (by simp[haf]));go_simp;apply hK;exact { hJ with f3:=fun _=>rfl }
  ·
    obtain rfl:=hJ.f3 (Az0 (by simp[haf]));obtain rfl:W=w0:=hJ.w (by rw[←Bool.not_eq_true];intro e;have e:=hJ.q9_5 e;have e:=hJ.q5_4 e;rw[hl] at e;cases e);go_simp;apply hK;exact { hJ with f4:=fun _=>rfl,q5_4:=fun _=>rfl }
  ·
    have p4:listed.getD 4 true=true:=Az0 (by simp[haf]);obtain rfl:=hJ.f0 (Az0 (by simp[haf]));obtain rfl:=hJ.f4 p4;have zp1:(p:Int)≤(n:Int):=by omega
    have zp2:(n:Int)≤(c:Int):=by omega
    have zp3:¬ c=p:=by omega
    go_simp;apply hK;exact { hJ with f5:=fun _=>rfl,q9_5:=fun _=>rfl,q5_4:=fun _=>p4 }
  ·
    go_simp;apply hK;exact { hJ with f6:=fun _=>rfl }
  ·
    go_simp;apply hK;exact { hJ with f7:=fun _=>rfl }
  ·
    obtain rfl:=hJ.f6 (Az0 (by simp[haf]));obtain rfl:=hJ.f7 (Az0 (by simp[haf]));have zm:(m:Int)≤(sb.size:Int):=by omega
    go_simp
    try simp only[Azz]
    apply hK;exact { hJ with f8:=fun _=>rfl }
  ·
    have p5:listed.getD 5 true=true:=Az0 (by simp[haf]);obtain rfl:=hJ.f5 p5;obtain rfl:=hJ.f8 (Az0 (by simp[haf]));obtain rfl:W=w0:=hJ.w hl;refine step_copy_string rfl _ _ _ _ rfl 5 Tryz.underlying112 Oz6 gb p (n - p) (c - p) rfl (cutS sb 0 m) rfl hle hcc hff ?_;apply hK;exact { hJ with f9:=fun _=>⟨(),rfl,rfl⟩,q9_5:=fun _=>p5,w:=tfR }
 case fin=>
  intro listed a W hall hI;obtain⟨y144,y145,y146,y147,y148,y149,y150,y151,y152,y153,hJ,rfl⟩:=hI;exact HQ.out listed W _ _ _ _ _ _ _ _ _ _ hall hJ
attribute [local go_sem] After.cell
theorem Pzg (d s:List UInt8) (q j:Nat) (hj:d.length+j=max d.length (q+s.length)):
  (d++List.replicate j 0).take q++s++(d++List.replicate j 0).drop (q+s.length)=overS d s q:=by
 unfold overS
 congr 1
 ·congr 1
  simp only[List.take_append,List.take_replicate]
  congr 2
  omega
 ·rw[List.drop_append,List.drop_replicate]
  have:j - (q+s.length - d.length)=0:=by omega
  rw[this];simp
theorem Ezu {P:Program} {ops:Array Oper} {rest:List Oper} {o:Oper} {a:Act} {w:World} {Q:Exit→Act→World→Prop} (hgd:o.guard=none) (s x:Operand) (t:TypeId)
  (ho:o.op= .call { callee:= .builtin .append,args:= #[s,x],argTypes:= #[t,t] }) (vs vx v:Value) (w':World) (hs:a.eval s=vs) (hx:a.eval x=vx)
  (hrun:(Builtin.append_ #[t,t] o.type #[vs,vx]).run P w= .ok v w') (h:wpList P ops Q rest (a.put o.dst v) w'):wpList P ops Q (o::rest) a w:=
 wpList_plain hgd fun _ hK=>by
  unfold Oper.wp;simp[execOp,ho,resolve,invoke,builtin,hs,hx,hrun,Result.andThen];exact hK _ _ h
def Tzj:Value→Nat
 | .slice _ n _=>n
 | _=>0
section
variable {B g:Nat} {a:KA} {k:Krn} {ms:List (Value × Value)} {es:List Value}
structure PadS (w wr:World) (base gb c:Nat) (d:List UInt8) (n j:Nat):Prop where
 row:ByRow wr base gb c (d++List.replicate j 0)
 low:Below base w wr
 le:d.length+j≤n
def PadR (w:World) (base:Nat) (d:List UInt8) (n:Nat) (V:Value) (wr:World):Prop:=
 ∃ j gb c,V= .slice (some ⟨gb,0,none⟩) (d.length+j) c∧PadS w wr base gb c d n j
theorem Kzb {p i be c:Nat} (s:ByteArray) (w:World) (h:KS B w g a k ms es) (hk:KOk k) (hp:p<k.procs.length) (hp':p<es.length) (he:es[p]= .slice (some ⟨be,0,none⟩) k.procs[p].ends.length c) (hi:i<k.procs[p].ends.length)
  (h0:k.procs[p].ends[i].kind≠0) (h2:k.procs[p].ends[i].kind≠2) (h3:k.procs[p].ends[i].kind≠3) (hd:(k.nodes.getD k.procs[p].ends[i].node.toNat default).kind≠2) (hem:empS s=false) (h100:s.size≤100):
  Calls Tryz.prog 56 #[.agg #[.pointer (some ⟨g,0,none⟩)], .pointer (some ⟨be,i*3,none⟩), .string s] w (WritePost B w g ms es (Azh k p i s)):=by
 have HO:Hid (∀ W:World,Below w.heap.size w W→be<W.heap.size∧W.cell? ⟨be,i*3,none⟩=some (.int .i64 k.procs[p].ends[i].kind)∧W.cell? ⟨be,i*3+1,none⟩=some (.int .i64 k.procs[p].ends[i].node)∧W.cell? ⟨be,i*3+2,none⟩=some (.int .i64 k.procs[p].ends[i].pos)):=fun W hW=>(h.below hW).opn hp hp' he hi
 have HEO:endOk k k.procs[p].ends[i]=true:=by
  have:=Cz6 hk (p:=p) (i:=i) (by have:=hk.l4;omega);rw[Az3 hp,Az3 hi] at this;exact this
 have HUN:(k.procs.getD p default).ends.getD i default=k.procs[p].ends[i]:=by
  rw[Az3 hp,Az3 hi]
 obtain⟨x,hx⟩:∃ x,x=k.procs[p].ends[i]:=⟨_,rfl⟩;rw[←hx] at HO HEO HUN h0 h2 h3 hd;obtain⟨_,no0,no8,nk,p0,p1⟩:=Dzd HEO h0 h2 h3;obtain⟨nd,hnd⟩:∃ nd:Nat,x.node=(nd:Int):=⟨x.node.toNat,by omega⟩;have l2:=hk.l2;have hnl:nd<k.nodes.length:=by omega
 have hgd:k.nodes.getD x.node.toNat default=k.nodes[nd]:=by rw[hnd,Int.toNat_natCast,Az3 hnl]
 have hno:Bz6 k.mods.length k.nodes[nd]=true:=by
  have:=Ezl hk (i:=nd) (by omega)
  rwa [Az3 hnl] at this
 rw[hgd] at hd;obtain⟨y,hy⟩:∃ y,y=k.nodes[nd]:=⟨_,rfl⟩;rw[←hy] at hd hno;obtain⟨y1',_,hds⟩:=Czb hno (by rw[hgd, ←hy] at nk;exact nk) hd;obtain⟨q,hq⟩:∃ q:Nat,x.pos=(q:Int):=⟨x.pos.toNat,by omega⟩;have HRK:Hid (Azh k p i s=if min s.size (100 - q)=0 then (k,ansE 8) else (setEnd (setNod k nd { y with data:=⟨(overS y.data.data.toList (s.data.toList.take (min s.size (100 - q))) q).toArray⟩ }) p i { x with pos:=(q:Int)+(min s.size (100 - q):Nat) },ansN (min s.size (100 - q)))):=by
  show _=_;unfold Azh;simp only;rw[HUN,if_neg (fun h=>by
   rcases h with h|h
   ·rw[hem] at h;cases h
   ·omega),if_neg h3,hgd, ←hy,if_neg hd,hq,Int.toNat_natCast,hnd,Int.toNat_natCast]
 have hl0:s.toList≠ []:=by rw[Bz5] at hem;simpa using hem
 have hl1:s.toList.isEmpty=false:=by rw[List.isEmpty_eq_false_iff];exact hl0
 have hs0:1≤s.size:=by
  have h1:(s.size == 0)=false:=hem;have:=beq_eq_false_iff_ne.1 h1;omega
 have q1:decide ((100:Int)<(s.size:Int))=false:=by simp;omega
 have q2:¬ (100:Int)<(s.size:Int):=by omega
 have q3:(x.kind == 3)=false:=by rw[beq_eq_false_iff_ne];exact h3
 have HB:=Lib.hid (Az6 w (.cells #[.pointer (some ⟨g,0,none⟩)] 59));have HX:=Lib.hid (Blk.new w 59 #[.pointer (some ⟨g,0,none⟩)]);have H0:=Lib.hid h;have HK:=Lib.hid hk;obtain⟨b2,ha2,_,hb2⟩:=Azf h.cp.nodes (by omega);have HA2:=Lib.hid ha2
 -- the node, wherever the kernel's rows lie as they lay
 have HNOD:Hid (∀ W:World,KS B W g a k ms es→b2<W.heap.size∧W.cell? ⟨b2,nd*4+1,none⟩=some (.int .i64 1)∧W.cell? ⟨b2,nd*4+2,none⟩=some (.string y.data)):=fun W hK=>by
  obtain⟨b,o,hb,hlt,hc⟩:=hK.krn.nodes (by show 0<k.nodes.length;omega);rw[ha2] at hb;cases hb
  obtain⟨e0,e1,e2,e3⟩:=hc nd hnl;rw[Nat.zero_add] at e1 e2;refine⟨hlt,e1.trans ?_,e2.trans ?_⟩
  ·show some (Value.int .i64 k.nodes[nd].kind)=_
   rw[←hy,y1']
  ·show some (Value.string k.nodes[nd].data)=_
   rw[←hy]
 have HPI:=Lib.hid (And.intro hnd hnl);have nl8:(nd:Int)<8:=by omega
 have HL2:=Lib.hid l2;have HY:=Lib.hid (And.intro hy hx);have HHE:=Lib.hid he;have HQ:=Lib.hid hq;have HDS:=Lib.hid hds;have HPP:=Lib.hid (And.intro hp (And.intro hp' hi));clear h hk hx h2 h3 hnd hgd hno hd hy ha2 hb2 hem HEO HUN l2 nk hq y1' hds;obtain⟨z0,z1,z2,z3⟩:=HO.out _ HB.out;rw[HPI.out.1] at z2;have hK1:=H0.out.below HB.out;obtain⟨y0,y1,y3⟩:=HNOD.out _ hK1;obtain⟨c0,c1,c2,c3,c4⟩:=hK1.c5;rw[HL2.out,HA2.out] at c2;have gl:=hK1.blk.lt;have xl:=HX.out.lt;clear hK1;go_enter Tryz.func56,Tryz.ntmps56;go_upto_region 12 with fail
 generalize w.alloc (.cells #[.pointer (some ⟨g,0,none⟩)] 59)=W0 at*;have x0:=HX.out.cell 0;simp at x0;go_quiet (fail);have hWq:=Below.drewN' (Below.refl W0.heap.size W0) nq;have HB1:=Lib.hid (HB.out.trans (hWq.mono HB.out.size));have HX1:=Lib.hid (HX.out.drewN nq);have HK1:=Lib.hid (H0.out.below HB1.out);have HF1:=Lib.hid (Fr.low HB1.out (Nat.le_of_lt H0.out.lt));clear hWq z0 z1 z2 z3 y0 y1 y3 c0 c1 c2 c3 c4 gl x0 xl;generalize W0.drewN nq=W1 at*;obtain⟨y0,y1,y3⟩:=HNOD.out W1 HK1.out;obtain⟨z0,z1,z2,z3⟩:=HO.out W1 HB1.out;rw[HQ.out] at z3;have q100:(q:Int)≤100:=by have:=HQ.out;omega
 obtain⟨mm,hmm⟩:∃ mm,mm=min s.size (100 - q):=⟨_,rfl⟩;rw[←hmm] at HRK;have w1:IntKind.i64.wrap (100 - (q:Int))=100 - (q:Int):=Go.IntWalk.i64_in _ (by omega);have w2:(if 100 - (q:Int)<(s.size:Int) then 100 - (q:Int) else (s.size:Int))=(mm:Int):=by
  rw[hmm];split<;>omega
 have HMM:=Lib.hid hmm;have HMS:=Lib.hid (show mm≤s.size∧q+mm≤100 by omega);clear hmm;by_cases hm0:mm=0
 ·rw[if_pos hm0] at HRK
  have m0:((mm:Int) == 0)=true:=by rw[hm0];rfl
  clear hm0;go_wp2;go_ret2;rw[HRK.out];exact⟨rfl,HF1.out,_,HK1.out⟩
 ·rw[if_neg hm0] at HRK
  have m0:((mm:Int) == 0)=false:=by rw[beq_eq_false_iff_ne];omega
  obtain⟨cap,kc,hrow,hbel⟩:=Qzr W1 W1.heap.size y.data (Nat.le_refl _) (by have:=HDS.out;unfold maxLen;omega);have HROW:=Lib.hid hrow;have HBEL:=Lib.hid hbel;have HM1:=Lib.hid (show 1≤mm by omega);clear hm0 hrow hbel;go_wp2;generalize Lib.bytesWorld W1 5 y.data=W2 at*;obtain⟨d,hd⟩:∃ d,d=y.data.data.toList:=⟨_,rfl⟩;rw[←hd] at HROW HRK;have hdn:y.data.size=d.length+0:=by rw[hd];simp
  try simp only[Array.length_toList]
  first|rw[hdn]|skip
  have hdl:d.length≤100:=by
   have:=HDS.out;rw[hd]
   simpa using this
  clear kc y0 y1 y3 z0 z1 z2 z3 hd m0 w1 w2;have w3:IntKind.i64.wrap ((q:Int)+(mm:Int))=(q:Int)+(mm:Int):=Go.IntWalk.i64_in _ (by have:=HMS.out;omega);go_loopw [15] (fun V wr=>PadR W1 W1.heap.size d (max d.length (q+mm)) V wr) (fun V _=>q+mm - Tzj V)
  case atStart=>exact⟨0,_,_,rfl,by simpa using HROW.out,HBEL.out,by omega⟩
  case round=>
   obtain⟨j,gb,c',rfl,hP⟩:=hrel;have HBr:=HB1.out.trans (hP.low.mono HB1.out.size);obtain⟨z0,z1,z2,z3⟩:=HO.out wr HBr;rw[HQ.out] at z3;have hle9:=hP.le;have qmm:=HMS.out.2;have HL:(d++List.replicate j (0:UInt8)).length=d.length+j:=by simp
   by_cases hlt:d.length+j<q+mm
   ·have t1:((d.length+j:Nat):Int)<(q:Int)+(mm:Int):=by omega
    have t2:(d.length:Int)+(j:Int)<(q:Int)+(mm:Int):=by omega
    have HWB:Below W1.heap.size wr (wr.alloc (.cells #[.int .u8 0] 5)):=(Below.refl _ wr).alloc (by have:=hP.low.size;omega) _;have hnc:=Blk.new wr 5 #[.int .u8 0];obtain⟨g',c2,w',ka,hr',ht',hb'⟩:=Nz0 (hP.row.below ((Below.refl _ wr).alloc (Nat.le_refl _) (.cells #[.int .u8 0] 5))) (by rw[HL];omega) (by have:=hP.low.size;simp;omega) ⟨wr.heap.size,0,none⟩ 1 0 (hnc.cell 0);rw[HL] at ka;have HN:Hid (PadS W1 w' W1.heap.size g' c2 d (max d.length (q+mm)) (j+1)):=⟨by rw[List.replicate_succ', ←List.append_assoc];exact hr',hP.low.trans (HWB.trans hb'),by omega⟩;clear hP hr' ht' hb' hnc HWB HBr;go_wp2_with (at_builtin;(refine Ezu rfl (.tmp 141) (.tmp 142) _ rfl _ _ _ _ rfl rfl ka ?_);clear ka);refine⟨by (repeat apply Exists.intro);exact⟨⟨j+1,_,_,rfl,HN.out⟩,rfl⟩,?_⟩;change q+mm - (d.length+j+1)<q+mm - (d.length+j);omega
   ·have t1:¬ ((d.length+j:Nat):Int)<(q:Int)+(mm:Int):=by omega
    have t2:¬ (d.length:Int)+(j:Int)<(q:Int)+(mm:Int):=by omega
    have hj9:d.length+j=max d.length (q+mm):=by omega
    have HP:=Lib.hid hP;have HJ9:=Lib.hid hj9;have HBR:=Lib.hid HBr;clear hP hj9 HBr hle9;go_upto_region 30 with fail
    have hBd:Below w.heap.size w wr.drew:=HBR.out.trans ((Below.drewN' (Below.refl wr.heap.size wr) 1).mono HBR.out.size);have hPd:ByRow wr.drew W1.heap.size gb c' (d++List.replicate j 0):=HP.out.row.below (Below.drewN' (Below.refl wr.heap.size wr) 1);have hcs:(cutS s 0 mm).size=mm:=by rw[Bz1 _ _ _ (by have:=HMS.out;omega)];omega
    have hcl:(cutS s 0 mm).data.toList=s.data.toList.take mm:=by simp[cutS]
    have hcn:(s.data.toList.take mm).length=mm:=by rw[List.length_take];have:=HMS.out;simp;omega
    have hlow:=hPd.len;rw[HL] at hlow;obtain⟨x0,_,_,x3⟩:=HO.out wr.drew hBd;rw[HQ.out] at x3;refine Ozi wr.drew gb (d.length+j) c' be i q mm s wr _ x0 x3 (by have:=HM1.out;have:=HJ9.out;omega) hlow HMS.out.1 hPd.cap (by rw[hcs];omega) (fun o ho=>hPd.room _ (by omega)) (fun o ho=>hPd.free _ (by omega)) rfl ?_;intro listed W3 y144 y145 y146 y147 y148 y149 y150 y151 y152 y153 hall hJ;obtain⟨_,rfl,hW⟩:=hJ.f9 (hall 9 (by decide));clear hJ;rw[hcl] at hW;obtain⟨hs1,hs2,hs3⟩:=hPd.sets (s.data.toList.take mm) q _ _ (by rw[hcn,HL];omega);rw[←hW] at hs1 hs2 hs3;rw[Pzg d _ q j (by rw[hcn];exact HJ9.out)] at hs1;have hb3:Below W1.heap.size W1 W3:=HP.out.low.trans ((Below.drewN' (Below.refl _ wr) 1 |>.mono HP.out.low.size).trans hs3);have hK3:=HK1.out.below hb3;have HF3:=Lib.hid (HF1.out.trans (Fr.low hb3 (Nat.le_of_lt HK1.out.lt)));have hon:(overS d (s.data.toList.take mm) q).length=d.length+j:=by rw[Lz7,hcn];have:=HJ9.out;omega
    have kc:=Ozx (cap:=c') hs1;rw[hon] at kc;have HND:=Lib.hid (hK3.nodeData HA2.out HPI.out.2 ⟨(overS d (s.data.toList.take mm) q).toArray⟩);obtain⟨y0,_,y3⟩:=HNOD.out W3 hK3;have hn9:=hK3.cp.nodes;rw[HA2.out] at hn9;have f3:=hn9.frozenAt (nd*4+2);clear hn9;clear hW hs1 hs2 hs3 hb3 hK3 hon hPd hBd hlow hcs hcl x0 x3
    dsimp only
    go_upto_region 32 with fail
    clear kc y0 y3 f3;obtain⟨D,hD⟩:∃ D:ByteArray,D=⟨(overS d (s.data.toList.take mm) q).toArray⟩:=⟨_,rfl⟩;rw[←hD] at HND HRK ⊢;generalize W3.setCell ⟨b2,nd*4+2,none⟩ (.string D)=W4 at*;have hK4:=HND.out.1;rw[←HY.out.1] at hK4;obtain⟨x0,_,_,x9⟩:=hK4.opn HPP.out.1 HPP.out.2.1 HHE.out HPP.out.2.2;have x3:W4.cell? ⟨be,i*3+2,none⟩=some (.int .i64 (q:Int)):=by
     refine x9.trans ?_;show some (Value.int .i64 k.procs[p].ends[i].pos)=_;rw[←HY.out.2,HQ.out]
    have hfz:=hK4.cp.ends.at_ p HPP.out.1 HPP.out.2.1;rw[HHE.out] at hfz;have f2:=hfz.frozenAt (i*3+2);have HFIN:=Lib.hid (hK4.endPos HPP.out.1 HPP.out.2.1 HHE.out HPP.out.2.2 ((q:Int)+(mm:Int)));have HF4:=Lib.hid (HF3.out.trans HND.out.2);have HEQ:Hid (({ (setNod k nd { y with data:=D }).procs[p].ends[i] with pos:=(q:Int)+(mm:Int) }:Opn)= { x with pos:=(q:Int)+(mm:Int) }):=by
     show _=_;rw[HY.out.2];rfl
    have w4:wrap64 ((q:Int)+(mm:Int))=(q:Int)+(mm:Int):=by
     have:=wrap64_small (n:=q+mm) (by have:=HMS.out;omega)
     simpa using this
    clear hfz hK4 x9;go_wp2;go_ret2;rw[HRK.out];exact⟨rfl,HF4.out.trans HFIN.out.2,_,by rw[←HEQ.out];exact HFIN.out.1⟩
end
end Go.Proofs.YtdjamdbamkhblacGreatDoor
namespace Go.Proofs.YtdjamdbamkhblacGreatDoor
open Go.RowKit
section
variable {B g:Nat} {a:KA} {k:Krn} {ms:List (Value × Value)} {es:List Value}
theorem write_any (HR:RunC 96) {p i be c:Nat} (s:ByteArray) (w:World) (h:KS B w g a k ms es) (hk:KOk k) (ht:Tab w) (hgB:0<B) (hs:s.size≤maxLen) (hp:p<k.procs.length) (hp':p<es.length) (he:es[p]= .slice (some ⟨be,0,none⟩) k.procs[p].ends.length c) (hi:i<k.procs[p].ends.length)
  (h0:k.procs[p].ends[i].kind≠0) (h2:k.procs[p].ends[i].kind≠2):
  Calls Tryz.prog 56 #[.agg #[.pointer (some ⟨g,0,none⟩)], .pointer (some ⟨be,i*3,none⟩), .string s] w (WritePost B w g ms es (Azh k p i s)):=by
 by_cases hem:empS s=true
 ·exact Jze (c:=c) s w h hs (.inl hem)
 have hem:empS s=false:=by simpa using hem
 by_cases h100:100<s.size
 ·exact Jze (c:=c) s w h hs (.inr h100)
 by_cases h3:k.procs[p].ends[i].kind=3
 ·exact Mzi s w h hk hp hp' he hi h3 hem (by omega)
 by_cases hd:(k.nodes.getD k.procs[p].ends[i].node.toNat default).kind=2
 ·exact Ozk HR s w h hk ht hgB hp hp' he hi h0 h2 h3 hd hem (by omega)
 ·exact Kzb s w h hk hp hp' he hi h0 h2 h3 hd hem (by omega)
end
end Go.Proofs.YtdjamdbamkhblacGreatDoor
