/- Bytes of one's own in a block of whatever mark: '[]byte(s)', appended to, copied into, handed back as a string. No condition. The drawn region of write that copies the new bytes into the file's. No condition. By an AI agent (xwcopy.py). -/
import Derived.Lib.ConvBytes
import Derived.Lib.LazyBuf
import Derived.Lib.FrozenHead
import Derived.Test.YtdjamdbamkhblacDoorG26
namespace Go.Proofs.YtdjamdbamkhblacDoor
open Go.RowKit
set_option linter.unusedVariables false
set_option linter.unusedSimpArgs false
theorem Hz1:(Tryd.prog.info? 5).map (fun i=>(i.zero,i.size,i.bytes))=some (some (.int .u8 0),1,1):=by kernel_rfl
theorem Nzv:∀ w:World,(Go.sizeOf 5).run Tryd.prog w= .ok 1 w:=fun w=>by
 obtain⟨i,hi,_,hs,_⟩:=info_parts Hz1;simp[sizeOf,typeInfo,hi,hs]
structure ByRow (W:World) (base g c:Nat) (R:List UInt8):Prop where
 lo:base≤g
 len:R.length≤c
 cap:c≤maxLen
 cell:∀ j (h:j<R.length),W.cell? ⟨g,j,none⟩=some (.int .u8 (R[j].toNat:Int))
 room:∀ j,j<c→(W.cell? ⟨g,j,none⟩).isSome=true
 free:∀ j,j<c→W.frozen? ⟨g,j,none⟩=false
 typ:∃ cs fr,W.heap[g]? =some (.cells cs 5 fr)
theorem ByRow.lt {W:World} {base g c:Nat} {R:List UInt8} (h:ByRow W base g c R):g<W.heap.size:=by
 obtain⟨_,_,h⟩:=h.typ;exact(Array.getElem?_eq_some_iff.1 h).1
theorem Jzc {W W':World} {g:Nat} (h:W'.heap[g]? =W.heap[g]?) (j:Nat):W'.frozen? ⟨g,j,none⟩=W.frozen? ⟨g,j,none⟩:=by
 simp only[World.frozen?,h]
theorem Iz7 {W W':World} {g:Nat} (h:W'.heap[g]? =W.heap[g]?) (j:Nat):W'.cell? ⟨g,j,none⟩=W.cell? ⟨g,j,none⟩:=by
 simp only[World.cell?,h]
theorem ByRow.keep {W W':World} {base g c:Nat} {R:List UInt8} (h:ByRow W base g c R) (hk:W'.heap[g]? =W.heap[g]?):ByRow W' base g c R:=
 ⟨h.lo,h.len,h.cap,fun j hj=>(Iz7 hk j).trans (h.cell j hj),fun j hj=>by rw[Iz7 hk];exact h.room j hj,fun j hj=>(Jzc hk j).trans (h.free j hj),by rw[hk];exact h.typ⟩
theorem ByRow.below {W W':World} {base g c:Nat} {R:List UInt8} (h:ByRow W base g c R) (hb:Below W.heap.size W W'):ByRow W' base g c R:=h.keep (hb.block g h.lt)
theorem Tch.of_setF {t:TypeId} {w:World} {p:Addr} (h:∃ cs fr,w.heap[p.block]? =some (.cells cs t fr)) (u:Value):Tch t w (w.setCell p u):=
 ⟨rfl,rfl,rfl,by simp,fun q _ hne=>Below.heap_setCell w p u q fun e=>by subst e;obtain⟨cs,fr,h⟩:=h;exact hne _ _ h⟩
theorem Rzm {t:TypeId} {w:World} {g o:Nat} (h:∃ cs fr,w.heap[g]? =some (.cells cs t fr)) (u:Value):∃ cs fr,(w.setCell ⟨g,o,none⟩ u).heap[g]? =some (.cells cs t fr):=by
 obtain⟨cs,fr,h⟩:=h;rw[setCell_eq_setRow w g o cs t fr u h];exact⟨_,_,setRow_heap w g cs _ t _ h⟩
theorem ByRow.set {W:World} {base g c n:Nat} {R R':List UInt8} (h:ByRow W base g c R) (hn:n<c) (x:UInt8) (hl:R'.length≤c) (hR:∀ j (hj:j<R'.length),(n=j∧R'[j]=x)∨(n≠j∧∃ h:j<R.length,R'[j]=R[j])):
  ByRow (W.setCell ⟨g,n,none⟩ (.int .u8 (x.toNat:Int))) base g c R'∧Tch 5 W (W.setCell ⟨g,n,none⟩ (.int .u8 (x.toNat:Int))):=by
 refine⟨⟨h.lo,hl,h.cap,fun j hj=>?_,fun j hj=>?_,fun j hj=>?_,Rzm h.typ _⟩,Tch.of_setF (p:=⟨g,n,none⟩) h.typ _⟩
 ·rcases hR j hj with⟨rfl,e⟩|⟨hne,hj',e⟩
  ·obtain⟨u,hu⟩:=Option.isSome_iff_exists.1 (h.room n hn)
   rw[e];exact World.cell?_setCell_same _ _ _ hu
  ·rw[e]
   exact(World.cell?_setCell_other _ _ _ _ (by intro h;injection h with _ h _;omega)).trans (h.cell j hj')
 ·by_cases e:n=j
  ·subst e
   obtain⟨u,hu⟩:=Option.isSome_iff_exists.1 (h.room n hn);rw[World.cell?_setCell_same _ _ _ hu];rfl
  ·rw[World.cell?_setCell_other _ _ _ _ (by intro h;injection h with _ h _;omega)]
   exact h.room j hj
 ·rw[World.frozen?_setCell]
  exact h.free j hj
theorem Qzj (W:World) (base:Nat) (s:ByteArray) (hb:base≤W.heap.size) (hs:s.size≤maxLen):∃ cap,(convert 9 84 (.string s)).run Tryd.prog W= .ok (.slice (some ⟨W.heap.size,0,none⟩) s.data.toList.length cap) (Lib.bytesWorld W 5 s)∧
  ByRow (Lib.bytesWorld W 5 s) base W.heap.size cap s.data.toList∧Below W.heap.size W (Lib.bytesWorld W 5 s):=by
 have hn:=Lib.bytesWorld_at_new W 5 s;have hge:=grownCap_ge W s.size 0 5;have hsz:(Lib.bytesCells W 5 s).size=grownCap W s.size 0 5:=by
  have:s.data.size=s.size:=rfl;simp only[Lib.bytesCells,Array.size_append,Array.size_map,Array.size_replicate];omega
 refine⟨grownCap W s.size 0 5,?_,⟨hb,by simpa using hge,grownCap_le_maxLen W s.size 0 5 hs,fun j hj=>?_,fun j hj=>?_,fun j hj=>?_,⟨_,_,hn⟩⟩,⟨rfl,rfl,rfl,by rw[Lib.bytesWorld_size];omega,fun k hk=>Lib.bytesWorld_at_old W _ s k hk⟩⟩
 ·rw[show s.data.toList.length=s.size by simp]
  exact Lib.run_convert_string_bytes W 9 84 5 s Tryd.underlying9 Tryd.underlying84 Tryd.underlying5
 ·rw[Lib.bytesWorld_cell W _ s j (by simpa using hj)]
  simp[List.getD,List.getElem?_eq_getElem hj]
 ·rw[cell_of_row _ _ _ _ _ _ hn,Array.getElem?_eq_getElem (by omega)]
  rfl
 ·simp[World.frozen?,hn]
  omega
section
variable {P:Program}
theorem Mzj {w:World} {base g c:Nat} {R:List UInt8} (h:ByRow w base g c R) (hR:R.length+1≤100000) (hb:base≤w.heap.size) (a:Addr) (m:Nat) (x:UInt8) (hx:w.cell? a=some (.int .u8 (x.toNat:Int))):
  ∃ g' c' w',(Builtin.append_ #[84,84] 84 #[.slice (some ⟨g,0,none⟩) R.length c, .slice (some a) 1 m]).run Tryd.prog w= .ok (.slice (some ⟨g',0,none⟩) (R.length+1) c') w'∧ByRow w' base g' c' (R++ [x])∧Tch 5 w w'∧Below base w w':=by
 obtain⟨i,hi,hz,hs1,hby⟩:=info_parts Hz1;have hU:=Tryd.underlying84;have hnews:∀ j u,[Value.int .u8 (x.toNat:Int)][j]? =some u→w.cell? (a.add j)=some u:=fun j u hu=>by
  match j,hu with
  | 0,hu=>simp at hu;subst hu;rw[show a.add 0=a by simp[Addr.add]];exact hx
 by_cases hroom:R.length+1≤c
 ·have hf:=run_firstCells_some (P:=Tryd.prog) w i.size 1 a 1 m [Value.int .u8 (x.toNat:Int)] (by rw[hs1];rfl) hnews
  have hst:=run_storeCells_cells (P:=Tryd.prog) g R.length [Value.int .u8 (x.toNat:Int)] 0 w (fun j hj=>h.room _ (by simp at hj;omega)) (fun j hj=>h.free _ (by simp at hj;omega)) (fun v hv=>by simp at hv;subst hv;rfl);obtain⟨h1,h2⟩:=h.set (n:=R.length) (by omega) x (R':=R++ [x]) (by simp;omega) (fun j hj=>by
   by_cases e:j=R.length
   ·subst e;exact .inl ⟨rfl,by simp⟩
   ·have hj':j<R.length:=by simp at hj;omega
    exact .inr ⟨by omega,hj',List.getElem_append_left hj'⟩)
  refine⟨g,c,_,?_,h1,h2,(Below.refl base w).setCell (p:=⟨g,R.length,none⟩) h.lo _⟩;simp only[Nat.add_zero] at hst;rw[hs1] at hf;simp[Builtin.append_,run_underlying hU,sizeOf,typeInfo,hi,hs1,Builtin.lenOf,hroom,hf,Addr.add_lit,hst,World.setCells]
 ·have hr:=run_append_grow (P:=Tryd.prog) w 84 84 5 i (.int .u8 0) hU hi hz ⟨g,0,none⟩ R.length c (R.map fun b=>Value.int .u8 (b.toNat:Int)) (by rw[hs1];simp) (fun j u hu=>by
    rw[add_plain,Nat.zero_add];simp only[List.getElem?_map,Option.map_eq_some_iff] at hu;obtain⟨b,hb,rfl⟩:=hu;obtain⟨hj,rfl⟩:=List.getElem?_eq_some_iff.1 hb;exact h.cell j hj) a 1 m [Value.int .u8 (x.toNat:Int)] (by rw[hs1];rfl) hnews (by omega) (by omega) (growslice_fits (by omega) (by rw[hby];omega))
  have hge:=grownCap_ge w (R.length+1) c 5;have hle:=grownCap_le_maxLen w (R.length+1) c 5 (by unfold maxLen;omega);have hn:=heap_alloc_new w.drew (.cells ((R.map fun b=>Value.int .u8 (b.toNat:Int)).toArray++ [Value.int .u8 (x.toNat:Int)].toArray++Builtin.zeroCells (Value.int .u8 0).cells (grownCap w (R.length+1) c 5 - (R.length+1))) 5);have hz1:(Value.int IntKind.u8 0).cells.size=1:=rfl;rw[show w.drew.heap.size=w.heap.size from rfl] at hn;refine⟨w.heap.size,_,_,hr,⟨hb,by simpa using hge,hle,fun j hj=>?_,fun j hj=>?_,fun j hj=>?_,⟨_,_,hn⟩⟩,⟨rfl,rfl,rfl,by simp,fun q hq _=>heap_alloc_old w.drew _ hq⟩,⟨rfl,rfl,rfl,by simp,fun q hq=>heap_alloc_old w.drew _ (by have:w.drew.heap.size=w.heap.size:=rfl;omega)⟩⟩
  ·have hj2:j<R.length+1:=by simpa using hj
   rw[cell_of_row _ _ _ _ _ _ hn,Array.getElem?_append_left (by simp;omega)];simp only[List.append_toArray,List.getElem?_toArray];rw[show [Value.int .u8 (x.toNat:Int)]=[x].map fun b=>Value.int .u8 (b.toNat:Int) from rfl, ←List.map_append,List.getElem?_map,List.getElem?_eq_getElem hj];rfl
  ·rw[cell_of_row _ _ _ _ _ _ hn,Array.getElem?_eq_getElem (by simp only[Array.size_append,List.size_toArray,List.length_map,size_zeroCells,hz1,List.length_cons,List.length_nil];omega)]
   rfl
  ·simp only[World.frozen?,hn]
   simp
end
theorem ByRow.sets {base g c:Nat}:∀ (l:List UInt8) (o:Nat) (W:World) (R:List UInt8),ByRow W base g c R→o+l.length≤R.length→
  ByRow (W.setCells g o (l.map fun x=>Value.int .u8 (x.toNat:Int))) base g c (R.take o++l++R.drop (o+l.length))∧Tch 5 W (W.setCells g o (l.map fun x=>Value.int .u8 (x.toNat:Int)))∧Below base W (W.setCells g o (l.map fun x=>Value.int .u8 (x.toNat:Int)))
 | [],o,W,R,h,_=>by
   simp only[List.map_nil,World.setCells,List.append_nil,List.length_nil,Nat.add_zero,List.take_append_drop];exact⟨h,⟨rfl,rfl,rfl,Nat.le_refl _,fun _ _ _=>rfl⟩, .refl _ _⟩
 | x::l,o,W,R,h,hl=>by
   simp only[List.length_cons] at hl;obtain⟨h1,h2⟩:=h.set (n:=o) (R':=R.set o x) (by have:=h.len;omega) x (by rw[List.length_set];exact h.len) (fun j hj=>by
    by_cases e:o=j
    ·subst e;exact .inl ⟨rfl,List.getElem_set_self _⟩
    ·exact .inr ⟨e,by simpa using hj,List.getElem_set_ne e _⟩)
   obtain⟨h3,h4,h5⟩:=ByRow.sets l (o+1) _ (R.set o x) h1 (by rw[List.length_set];omega);simp only[List.map_cons,World.setCells];refine⟨?_,h2.trans h4,((Below.refl base W).setCell (p:=⟨g,o,none⟩) h.lo _).trans h5⟩;have e:(R.set o x).take (o+1)++l++(R.set o x).drop (o+1+l.length)=R.take o++x::l++R.drop (o+(l.length+1)):=by
    have e1:(R.set o x).take (o+1)=R.take o++ [x]:=by
     rw[List.set_eq_take_append_cons_drop,if_pos (by omega),List.take_append,List.take_of_length_le (by simp;omega)];rw[List.length_take,Nat.min_eq_left (by omega),show o+1 - o=1 by omega];rfl
    rw[List.drop_set_of_lt (by omega),e1,show o+1+l.length=o+(l.length+1) by omega];simp
   rw[List.length_cons, ←e];exact h3
theorem Jzy {W:World} {base g c cap:Nat} {R:List UInt8} (h:ByRow W base g c R):
  (convert 84 9 (.slice (some ⟨g,0,none⟩) R.length cap)).run Tryd.prog W= .ok (.string ⟨R.toArray⟩) W:=by
 have e:=run_convert_bytes_arg W 84 5 Tryd.underlying84 Tryd.underlying5 g 0 R.length cap (R.map fun x=>(x.toNat:Int)) (by simp) (fun i hi=>by
  rw[Nat.zero_add,h.cell i hi];simp[List.getD,List.getElem?_eq_getElem hi]) 9 Tryd.underlying9
 rw[e,Gz5,List.map_map];have:(fun n=>u8 n.toNat) ∘ (fun x:UInt8=>(x.toNat:Int))=id:=by
  funext x
  simp[u8]
 rw[this,List.map_id];rfl
structure WCJ (w0:World) (gb n c be i p m:Nat) (sb:ByteArray) (t0t t1t t2t t3t t4t t5t t6t t7t t8t t9t:Bool) (W:World) (y144 y145 y146 y147 y148 y149 y150 y151 y152 y153:Value):Prop where
 f0:t0t=true→y144= .slice (some ⟨gb,0,none⟩) n c
 f1:t1t=true→y145= .pointer (some ⟨be,i*3,none⟩)
 f2:t2t=true→y146= .pointer (some ⟨be,i*3,none⟩)
 f3:t3t=true→y147= .pointer (some ⟨be,i*3+2,none⟩)
 f4:t4t=true→y148= .int .i64 (p:Int)
 f5:t5t=true→y149= .slice (some ⟨gb,p,none⟩) (n - p) (c - p)
 f6:t6t=true→y150= .string sb
 f7:t7t=true→y151= .int .i64 (m:Int)
 f8:t8t=true→y152= .string (cutS sb 0 m)
 f9:t9t=true→∃ s:Unit,y153=goInt (cutS sb 0 m).size∧W=w0.setCells gb p ((cutS sb 0 m).data.toList.map fun x=>Value.int .u8 (x.toNat:Int))
 q9_5:t9t=true→t5t=true
 q5_4:t5t=true→t4t=true
 w:t9t=false→W=w0
noncomputable def Mz1:Code:=((Tryd.f122.body.bind (Dz9 30)).getD .skip)
set_option maxRecDepth 1000000 in
set_option maxHeartbeats 8000000 in
theorem Oz7 (w0:World) (gb n c be i p m:Nat) (sb:ByteArray) {v0 v3 v4 v5 v6 v7 v8 v9 v10 v11 v12 v13 v16 v17 v18 v19 v20 v21 v22 v23 v24 v25 v26 v27 v28 v29 v30 v31 v32 v33 v34 v35 v36 v37 v38 v39 v40 v41 v42 v43 v44 v45 v46 v47 v48 v49 v50 v51 v52 v53 v54 v55 v56 v57 v58 v59 v60 v61 v62 v63 v64 v65 v66 v67 v68 v69 v70 v71 v72 v73 v74 v75 v76 v77 v78 v79 v80 v81 v82 v83 v84 v85 v86 v87 v88 v89 v90 v91 v92 v93 v94 v95 v96 v97 v98 v99 v100 v101 v102 v103 v104 v105 v106 v107 v108 v109 v110 v111 v112 v113 v114 v115 v116 v117 v118 v119 v120 v121 v122 v123 v124 v125 v126 v127 v128 v129 v130 v131 v132 v133 v134 v135 v136 v137 v138 v139 v140 v141 v142 v143 v144 v145 v146 v147 v148 v149 v150 v151 v152 v153 v154 v155 v156 v157 v158 v159 v160 v161 v162 v163 v164 v165 v166 v167:Value} (wr:World) (Q:Exit→Act→World→Prop) (hlb:be<w0.heap.size) (hp3:w0.cell? ⟨be,i*3+2,none⟩=some (.int .i64 (p:Int))) (hpn:p<n) (hnc:n≤c) (hms:m≤sb.size) (hc5:c≤maxLen) (hle:(cutS sb 0 m).size≤n - p) (hcc:∀ j,j<(cutS sb 0 m).size→(w0.cell? ⟨gb,p+j,none⟩).isSome=true) (hff:∀ j,j<(cutS sb 0 m).size→w0.frozen? ⟨gb,p+j,none⟩=false) (hw00:wr.drew=w0)
  (hQ:∀ (listed:Array Bool) (W:World) (y144 y145 y146 y147 y148 y149 y150 y151 y152 y153:Value),(∀ i,i<10→listed.getD i true=true)→WCJ w0 gb n c be i p m sb (listed.getD 0 true) (listed.getD 1 true) (listed.getD 2 true) (listed.getD 3 true) (listed.getD 4 true) (listed.getD 5 true) (listed.getD 6 true) (listed.getD 7 true) (listed.getD 8 true) (listed.getD 9 true) W y144 y145 y146 y147 y148 y149 y150 y151 y152 y153→Q .normal ⟨#[v0, .pointer (some ⟨be,i*3,none⟩), .string sb,v3,v4,v5,v6,v7,v8,v9,v10,v11,v12,v13, .int .i64 (m:Int), .slice (some ⟨gb,0,none⟩) n c,v16,v17,v18,v19,v20,v21,v22,v23,v24,v25,v26,v27,v28,v29,v30,v31,v32,v33,v34,v35,v36,v37,v38,v39,v40,v41,v42,v43,v44,v45,v46,v47,v48,v49,v50,v51,v52,v53,v54,v55,v56,v57,v58,v59,v60,v61,v62,v63,v64,v65,v66,v67,v68,v69,v70,v71,v72,v73,v74,v75,v76,v77,v78,v79,v80,v81,v82,v83,v84,v85,v86,v87,v88,v89,v90,v91,v92,v93,v94,v95,v96,v97,v98,v99,v100,v101,v102,v103,v104,v105,v106,v107,v108,v109,v110,v111,v112,v113,v114,v115,v116,v117,v118,v119,v120,v121,v122,v123,v124,v125,v126,v127,v128,v129,v130,v131,v132,v133,v134,v135,v136,v137,v138,v139,v140,v141,v142,v143,y144,y145,y146,y147,y148,y149,y150,y151,y152,y153,v154,v155,v156,v157,v158,v159,v160,v161,v162,v163,v164,v165,v166,v167],[]⟩ W):
  Code.wp Tryd.prog Mz1 Q ⟨#[v0, .pointer (some ⟨be,i*3,none⟩), .string sb,v3,v4,v5,v6,v7,v8,v9,v10,v11,v12,v13, .int .i64 (m:Int), .slice (some ⟨gb,0,none⟩) n c,v16,v17,v18,v19,v20,v21,v22,v23,v24,v25,v26,v27,v28,v29,v30,v31,v32,v33,v34,v35,v36,v37,v38,v39,v40,v41,v42,v43,v44,v45,v46,v47,v48,v49,v50,v51,v52,v53,v54,v55,v56,v57,v58,v59,v60,v61,v62,v63,v64,v65,v66,v67,v68,v69,v70,v71,v72,v73,v74,v75,v76,v77,v78,v79,v80,v81,v82,v83,v84,v85,v86,v87,v88,v89,v90,v91,v92,v93,v94,v95,v96,v97,v98,v99,v100,v101,v102,v103,v104,v105,v106,v107,v108,v109,v110,v111,v112,v113,v114,v115,v116,v117,v118,v119,v120,v121,v122,v123,v124,v125,v126,v127,v128,v129,v130,v131,v132,v133,v134,v135,v136,v137,v138,v139,v140,v141,v142,v143,v144,v145,v146,v147,v148,v149,v150,v151,v152,v153,v154,v155,v156,v157,v158,v159,v160,v161,v162,v163,v164,v165,v166,v167],[]⟩ wr:=by
 have HQ:=Lib.hid hQ;clear hQ;conv=>arg 2;whnf
 refine Bzb (fun listed a W=>∃ y144 y145 y146 y147 y148 y149 y150 y151 y152 y153,WCJ w0 gb n c be i p m sb (listed.getD 0 true) (listed.getD 1 true) (listed.getD 2 true) (listed.getD 3 true) (listed.getD 4 true) (listed.getD 5 true) (listed.getD 6 true) (listed.getD 7 true) (listed.getD 8 true) (listed.getD 9 true) W y144 y145 y146 y147 y148 y149 y150 y151 y152 y153∧a=⟨#[v0, .pointer (some ⟨be,i*3,none⟩), .string sb,v3,v4,v5,v6,v7,v8,v9,v10,v11,v12,v13, .int .i64 (m:Int), .slice (some ⟨gb,0,none⟩) n c,v16,v17,v18,v19,v20,v21,v22,v23,v24,v25,v26,v27,v28,v29,v30,v31,v32,v33,v34,v35,v36,v37,v38,v39,v40,v41,v42,v43,v44,v45,v46,v47,v48,v49,v50,v51,v52,v53,v54,v55,v56,v57,v58,v59,v60,v61,v62,v63,v64,v65,v66,v67,v68,v69,v70,v71,v72,v73,v74,v75,v76,v77,v78,v79,v80,v81,v82,v83,v84,v85,v86,v87,v88,v89,v90,v91,v92,v93,v94,v95,v96,v97,v98,v99,v100,v101,v102,v103,v104,v105,v106,v107,v108,v109,v110,v111,v112,v113,v114,v115,v116,v117,v118,v119,v120,v121,v122,v123,v124,v125,v126,v127,v128,v129,v130,v131,v132,v133,v134,v135,v136,v137,v138,v139,v140,v141,v142,v143,y144,y145,y146,y147,y148,y149,y150,y151,y152,y153,v154,v155,v156,v157,v158,v159,v160,v161,v162,v163,v164,v165,v166,v167],[]⟩) (by kernel_rfl) (Ezy (by kernel_rfl)) ?start ?step ?fin
 case start=>
  refine⟨_,_,_,_,_,_,_,_,_,_,?_,rfl⟩;constructor
  all_goals first|exact fun _=>hw00|exact fun _=>rfl|exact fun h=>absurd h (by decide)
 case step=>
  intro i o ho listed a W hl haf hI K hK;obtain⟨y144,y145,y146,y147,y148,y149,y150,y151,y152,y153,hJ,rfl⟩:=hI;have hK:=fun (W':World) z144 z145 z146 z147 z148 z149 z150 z151 z152 z153 h=>hK _ W' ⟨z144,z145,z146,z147,z148,z149,z150,z151,z152,z153,h,rfl⟩
  simp only[Az2] at hK;have hi:i<10:=(Array.getElem?_eq_some_iff.1 ho).1;have h16:i=0∨i=1∨i=2∨i=3∨i=4∨i=5∨i=6∨i=7∨i=8∨i=9:=by omega
  rcases h16 with rfl|rfl|rfl|rfl|rfl|rfl|rfl|rfl|rfl|rfl
  all_goals
   have ho:=Option.some.inj ho;subst ho
   try simp[Region.binds] at haf
  ·
    go_simp;apply hK;exact { hJ with f0:=fun _=>rfl }
  ·
    go_simp;apply hK;exact { hJ with f1:=fun _=>rfl }
  ·
    obtain rfl:=hJ.f1 (Az3 (by simp[haf]));go_simp;apply hK;exact { hJ with f2:=fun _=>rfl }
  ·
    obtain rfl:=hJ.f2 (Az3 (by simp[haf]));go_simp;apply hK;exact { hJ with f3:=fun _=>rfl }
  ·
    obtain rfl:=hJ.f3 (Az3 (by simp[haf]));obtain rfl:W=w0:=hJ.w (by rw[←Bool.not_eq_true];intro e;have e:=hJ.q9_5 e;have e:=hJ.q5_4 e;rw[hl] at e;cases e);go_simp;apply hK;exact { hJ with f4:=fun _=>rfl,q5_4:=fun _=>rfl }
  ·
    have p4:listed.getD 4 true=true:=Az3 (by simp[haf]);obtain rfl:=hJ.f0 (Az3 (by simp[haf]));obtain rfl:=hJ.f4 p4;have zp1:(p:Int)≤(n:Int):=by omega
    have zp2:(n:Int)≤(c:Int):=by omega
    have zp3:¬ c=p:=by omega
    go_simp;apply hK;exact { hJ with f5:=fun _=>rfl,q9_5:=fun _=>rfl,q5_4:=fun _=>p4 }
  ·
    go_simp;apply hK;exact { hJ with f6:=fun _=>rfl }
  ·
    go_simp;apply hK;exact { hJ with f7:=fun _=>rfl }
  ·
    obtain rfl:=hJ.f6 (Az3 (by simp[haf]));obtain rfl:=hJ.f7 (Az3 (by simp[haf]));have zm:(m:Int)≤(sb.size:Int):=by omega
    go_simp
    try simp only[Ezt]
    apply hK;exact { hJ with f8:=fun _=>rfl }
  ·
    have p5:listed.getD 5 true=true:=Az3 (by simp[haf]);obtain rfl:=hJ.f5 p5;obtain rfl:=hJ.f8 (Az3 (by simp[haf]));obtain rfl:W=w0:=hJ.w hl;refine step_copy_string rfl _ _ _ _ rfl 5 Tryd.underlying84 Nzv gb p (n - p) (c - p) rfl (cutS sb 0 m) rfl hle hcc hff ?_;apply hK;exact { hJ with f9:=fun _=>⟨(),rfl,rfl⟩,q9_5:=fun _=>p5,w:=tfR }
 case fin=>
  intro listed a W hall hI;obtain⟨y144,y145,y146,y147,y148,y149,y150,y151,y152,y153,hJ,rfl⟩:=hI;exact HQ.out listed W _ _ _ _ _ _ _ _ _ _ hall hJ
end Go.Proofs.YtdjamdbamkhblacDoor
