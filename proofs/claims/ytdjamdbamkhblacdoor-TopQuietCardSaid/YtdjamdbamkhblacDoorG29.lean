/- The walk of the kernel's write at a plain file. Condition: the listed table. The kernel's write, all ways. Condition: the listed table, the run's contract (RunC). -/
import Derived.Test.YtdjamdbamkhblacDoorG27
import Derived.Test.YtdjamdbamkhblacDoorG28
namespace Go.Proofs.YtdjamdbamkhblacDoor
open Go.RowKit
set_option linter.unusedVariables false
set_option linter.unusedSimpArgs false
attribute [local go_sem] After.cell
theorem Pzh (d s:List UInt8) (q j:Nat) (hj:d.length+j=max d.length (q+s.length)):
  (d++List.replicate j 0).take q++s++(d++List.replicate j 0).drop (q+s.length)=overS d s q:=by
 unfold overS
 congr 1
 ·congr 1
  simp only[List.take_append,List.take_replicate]
  congr 2
  omega
 ·rw[List.drop_append,List.drop_replicate]
  have:j - (q+s.length - d.length)=0:=by omega
  rw[this];simp
theorem Ezo {P:Program} {ops:Array Oper} {rest:List Oper} {o:Oper} {a:Act} {w:World} {Q:Exit→Act→World→Prop} (hgd:o.guard=none) (s x:Operand) (t:TypeId)
  (ho:o.op= .call { callee:= .builtin .append,args:= #[s,x],argTypes:= #[t,t] }) (vs vx v:Value) (w':World) (hs:a.eval s=vs) (hx:a.eval x=vx)
  (hrun:(Builtin.append_ #[t,t] o.type #[vs,vx]).run P w= .ok v w') (h:wpList P ops Q rest (a.put o.dst v) w'):wpList P ops Q (o::rest) a w:=
 wpList_plain hgd fun _ hK=>by
  unfold Oper.wp;simp[execOp,ho,resolve,invoke,builtin,hs,hx,hrun,Result.andThen];exact hK _ _ h
def Tz6:Value→Nat
 | .slice _ n _=>n
 | _=>0
section
variable {B g:Nat} {a:KA} {k:Krn} {ms:List (Value × Value)} {es:List Value}
structure PadS (w wr:World) (base gb c:Nat) (d:List UInt8) (n j:Nat):Prop where
 row:ByRow wr base gb c (d++List.replicate j 0)
 low:Below base w wr
 le:d.length+j≤n
def PadR (w:World) (base:Nat) (d:List UInt8) (n:Nat) (V:Value) (wr:World):Prop:=
 ∃ j gb c,V= .slice (some ⟨gb,0,none⟩) (d.length+j) c∧PadS w wr base gb c d n j
set_option maxRecDepth 100000 in
set_option maxHeartbeats 4000000 in
theorem Jzq {p i be c:Nat} (s:ByteArray) (w:World) (h:KS B w g a k ms es) (hk:KOk k) (hp:p<k.procs.length) (hp':p<es.length) (he:es[p]= .slice (some ⟨be,0,none⟩) k.procs[p].ends.length c) (hi:i<k.procs[p].ends.length)
  (h0:k.procs[p].ends[i].kind≠0) (h2:k.procs[p].ends[i].kind≠2) (h3:k.procs[p].ends[i].kind≠3) (hd:(k.nodes.getD k.procs[p].ends[i].node.toNat default).kind≠2) (hem:empS s=false) (h100:s.size≤100):
  Calls Tryd.prog 122 #[.agg #[.pointer (some ⟨g,0,none⟩)], .pointer (some ⟨be,i*3,none⟩), .string s] w (WritePost B w g ms es (Azw k p i s)):=by
 have HO:Hid (∀ W:World,Below w.heap.size w W→be<W.heap.size∧W.cell? ⟨be,i*3,none⟩=some (.int .i64 k.procs[p].ends[i].kind)∧W.cell? ⟨be,i*3+1,none⟩=some (.int .i64 k.procs[p].ends[i].node)∧W.cell? ⟨be,i*3+2,none⟩=some (.int .i64 k.procs[p].ends[i].pos)):=fun W hW=>(h.below hW).opn hp hp' he hi
 have HEO:endOk k k.procs[p].ends[i]=true:=by
  have:=Dz7 hk (p:=p) (i:=i) (by have:=hk.l4;omega);rw[Az8 hp,Az8 hi] at this;exact this
 have HUN:(k.procs.getD p default).ends.getD i default=k.procs[p].ends[i]:=by
  rw[Az8 hp,Az8 hi]
 obtain⟨x,hx⟩:∃ x,x=k.procs[p].ends[i]:=⟨_,rfl⟩;rw[←hx] at HO HEO HUN h0 h2 h3 hd;obtain⟨_,no0,no8,nk,p0,p1⟩:=Dzu HEO h0 h2 h3;obtain⟨nd,hnd⟩:∃ nd:Nat,x.node=(nd:Int):=⟨x.node.toNat,by omega⟩;have l2:=hk.l2;have hnl:nd<k.nodes.length:=by omega
 have hgd:k.nodes.getD x.node.toNat default=k.nodes[nd]:=by rw[hnd,Int.toNat_natCast,Az8 hnl]
 have hno:Bzh k.mods.length k.nodes[nd]=true:=by
  have:=Fzf hk (i:=nd) (by omega)
  rwa [Az8 hnl] at this
 rw[hgd] at hd;obtain⟨y,hy⟩:∃ y,y=k.nodes[nd]:=⟨_,rfl⟩;rw[←hy] at hd hno;obtain⟨y1',_,hds⟩:=Dzk hno (by rw[hgd, ←hy] at nk;exact nk) hd;obtain⟨q,hq⟩:∃ q:Nat,x.pos=(q:Int):=⟨x.pos.toNat,by omega⟩;have HRK:Hid (Azw k p i s=if min s.size (100 - q)=0 then (k,ansE 8) else (setEnd (setNod k nd { y with data:=⟨(overS y.data.data.toList (s.data.toList.take (min s.size (100 - q))) q).toArray⟩ }) p i { x with pos:=(q:Int)+(min s.size (100 - q):Nat) },ansN (min s.size (100 - q)))):=by
  show _=_;unfold Azw;simp only;rw[HUN,if_neg (fun h=>by
   rcases h with h|h
   ·rw[hem] at h;cases h
   ·omega),if_neg h3,hgd, ←hy,if_neg hd,hq,Int.toNat_natCast,hnd,Int.toNat_natCast]
 have hl0:s.toList≠ []:=by rw[Bzr] at hem;simpa using hem
 have hl1:s.toList.isEmpty=false:=by rw[List.isEmpty_eq_false_iff];exact hl0
 have hs0:1≤s.size:=by
  have h1:(s.size == 0)=false:=hem;have:=beq_eq_false_iff_ne.1 h1;omega
 have q1:decide ((100:Int)<(s.size:Int))=false:=by simp;omega
 have q2:¬ (100:Int)<(s.size:Int):=by omega
 have q3:(x.kind == 3)=false:=by rw[beq_eq_false_iff_ne];exact h3
 have HB:=Lib.hid (Azc w (.cells #[.pointer (some ⟨g,0,none⟩)] 138));have HX:=Lib.hid (Blk.new w 138 #[.pointer (some ⟨g,0,none⟩)]);have H0:=Lib.hid h;have HK:=Lib.hid hk;obtain⟨b2,ha2,_,hb2⟩:=Azx h.cp.nodes (by omega);have HA2:=Lib.hid ha2
 -- the node, wherever the kernel's rows lie as they lay
 have HNOD:Hid (∀ W:World,KS B W g a k ms es→b2<W.heap.size∧W.cell? ⟨b2,nd*4+1,none⟩=some (.int .i64 1)∧W.cell? ⟨b2,nd*4+2,none⟩=some (.string y.data)):=fun W hK=>by
  obtain⟨b,o,hb,hlt,hc⟩:=hK.krn.nodes (by show 0<k.nodes.length;omega);rw[ha2] at hb;cases hb
  obtain⟨e0,e1,e2,e3⟩:=hc nd hnl;rw[Nat.zero_add] at e1 e2;refine⟨hlt,e1.trans ?_,e2.trans ?_⟩
  ·show some (Value.int .i64 k.nodes[nd].kind)=_
   rw[←hy,y1']
  ·show some (Value.string k.nodes[nd].data)=_
   rw[←hy]
 have HPI:=Lib.hid (And.intro hnd hnl);have nl8:(nd:Int)<8:=by omega
 have HL2:=Lib.hid l2;have HY:=Lib.hid (And.intro hy hx);have HHE:=Lib.hid he;have HQ:=Lib.hid hq;have HDS:=Lib.hid hds;have HPP:=Lib.hid (And.intro hp (And.intro hp' hi));clear h hk hx h2 h3 hnd hgd hno hd hy ha2 hb2 hem HEO HUN l2 nk hq y1' hds;obtain⟨z0,z1,z2,z3⟩:=HO.out _ HB.out;rw[HPI.out.1] at z2;have hK1:=H0.out.below HB.out;obtain⟨y0,y1,y3⟩:=HNOD.out _ hK1;obtain⟨c0,c1,c2,c3,c4⟩:=hK1.c5;rw[HL2.out,HA2.out] at c2;have gl:=hK1.blk.lt;have xl:=HX.out.lt;clear hK1;go_enter Tryd.func122,Tryd.ntmps122;go_upto_region 12 with fail
 generalize w.alloc (.cells #[.pointer (some ⟨g,0,none⟩)] 138)=W0 at*;have x0:=HX.out.cell 0;simp at x0;go_quiet (fail);have hWq:=Below.drewN' (Below.refl W0.heap.size W0) nq;have HB1:=Lib.hid (HB.out.trans (hWq.mono HB.out.size));have HX1:=Lib.hid (HX.out.drewN nq);have HK1:=Lib.hid (H0.out.below HB1.out);have HF1:=Lib.hid (Fr.low HB1.out (Nat.le_of_lt H0.out.lt));clear hWq z0 z1 z2 z3 y0 y1 y3 c0 c1 c2 c3 c4 gl x0 xl;generalize W0.drewN nq=W1 at*;obtain⟨y0,y1,y3⟩:=HNOD.out W1 HK1.out;obtain⟨z0,z1,z2,z3⟩:=HO.out W1 HB1.out;rw[HQ.out] at z3;have q100:(q:Int)≤100:=by have:=HQ.out;omega
 obtain⟨mm,hmm⟩:∃ mm,mm=min s.size (100 - q):=⟨_,rfl⟩;rw[←hmm] at HRK;have w1:IntKind.i64.wrap (100 - (q:Int))=100 - (q:Int):=Go.IntWalk.i64_in _ (by omega);have w2:(if 100 - (q:Int)<(s.size:Int) then 100 - (q:Int) else (s.size:Int))=(mm:Int):=by
  rw[hmm];split<;>omega
 have HMM:=Lib.hid hmm;have HMS:=Lib.hid (show mm≤s.size∧q+mm≤100 by omega);clear hmm;by_cases hm0:mm=0
 ·rw[if_pos hm0] at HRK
  have m0:((mm:Int) == 0)=true:=by rw[hm0];rfl
  clear hm0;go_wp2;go_ret2;rw[HRK.out];exact⟨rfl,HF1.out,_,HK1.out⟩
 ·rw[if_neg hm0] at HRK
  have m0:((mm:Int) == 0)=false:=by rw[beq_eq_false_iff_ne];omega
  obtain⟨cap,kc,hrow,hbel⟩:=Qzj W1 W1.heap.size y.data (Nat.le_refl _) (by have:=HDS.out;unfold maxLen;omega);have HROW:=Lib.hid hrow;have HBEL:=Lib.hid hbel;have HM1:=Lib.hid (show 1≤mm by omega);clear hm0 hrow hbel;go_wp2;generalize Lib.bytesWorld W1 5 y.data=W2 at*;obtain⟨d,hd⟩:∃ d,d=y.data.data.toList:=⟨_,rfl⟩;rw[←hd] at HROW HRK;have hdn:y.data.size=d.length+0:=by rw[hd];simp
  try simp only[Array.length_toList]
  first|rw[hdn]|skip
  have hdl:d.length≤100:=by
   have:=HDS.out;rw[hd]
   simpa using this
  clear kc y0 y1 y3 z0 z1 z2 z3 hd m0 w1 w2;have w3:IntKind.i64.wrap ((q:Int)+(mm:Int))=(q:Int)+(mm:Int):=Go.IntWalk.i64_in _ (by have:=HMS.out;omega);go_loopw [15] (fun V wr=>PadR W1 W1.heap.size d (max d.length (q+mm)) V wr) (fun V _=>q+mm - Tz6 V)
  case atStart=>exact⟨0,_,_,rfl,by simpa using HROW.out,HBEL.out,by omega⟩
  case round=>
   obtain⟨j,gb,c',rfl,hP⟩:=hrel;have HBr:=HB1.out.trans (hP.low.mono HB1.out.size);obtain⟨z0,z1,z2,z3⟩:=HO.out wr HBr;rw[HQ.out] at z3;have hle9:=hP.le;have qmm:=HMS.out.2;have HL:(d++List.replicate j (0:UInt8)).length=d.length+j:=by simp
   by_cases hlt:d.length+j<q+mm
   ·have t1:((d.length+j:Nat):Int)<(q:Int)+(mm:Int):=by omega
    have t2:(d.length:Int)+(j:Int)<(q:Int)+(mm:Int):=by omega
    have HWB:Below W1.heap.size wr (wr.alloc (.cells #[.int .u8 0] 5)):=(Below.refl _ wr).alloc (by have:=hP.low.size;omega) _;have hnc:=Blk.new wr 5 #[.int .u8 0];obtain⟨g',c2,w',ka,hr',ht',hb'⟩:=Mzj (hP.row.below ((Below.refl _ wr).alloc (Nat.le_refl _) (.cells #[.int .u8 0] 5))) (by rw[HL];omega) (by have:=hP.low.size;simp;omega) ⟨wr.heap.size,0,none⟩ 1 0 (hnc.cell 0);rw[HL] at ka;have HN:Hid (PadS W1 w' W1.heap.size g' c2 d (max d.length (q+mm)) (j+1)):=⟨by rw[List.replicate_succ', ←List.append_assoc];exact hr',hP.low.trans (HWB.trans hb'),by omega⟩;clear hP hr' ht' hb' hnc HWB HBr;go_wp2_with (at_builtin;(refine Ezo rfl (.tmp 141) (.tmp 142) _ rfl _ _ _ _ rfl rfl ka ?_);clear ka);refine⟨by (repeat apply Exists.intro);exact⟨⟨j+1,_,_,rfl,HN.out⟩,rfl⟩,?_⟩;change q+mm - (d.length+j+1)<q+mm - (d.length+j);omega
   ·have t1:¬ ((d.length+j:Nat):Int)<(q:Int)+(mm:Int):=by omega
    have t2:¬ (d.length:Int)+(j:Int)<(q:Int)+(mm:Int):=by omega
    have hj9:d.length+j=max d.length (q+mm):=by omega
    have HP:=Lib.hid hP;have HJ9:=Lib.hid hj9;have HBR:=Lib.hid HBr;clear hP hj9 HBr hle9;go_upto_region 30 with fail
    have hBd:Below w.heap.size w wr.drew:=HBR.out.trans ((Below.drewN' (Below.refl wr.heap.size wr) 1).mono HBR.out.size);have hPd:ByRow wr.drew W1.heap.size gb c' (d++List.replicate j 0):=HP.out.row.below (Below.drewN' (Below.refl wr.heap.size wr) 1);have hcs:(cutS s 0 mm).size=mm:=by rw[Ez2 _ _ _ (by have:=HMS.out;omega)];omega
    have hcl:(cutS s 0 mm).data.toList=s.data.toList.take mm:=by simp[cutS]
    have hcn:(s.data.toList.take mm).length=mm:=by rw[List.length_take];have:=HMS.out;simp;omega
    have hlow:=hPd.len;rw[HL] at hlow;obtain⟨x0,_,_,x3⟩:=HO.out wr.drew hBd;rw[HQ.out] at x3;refine Oz7 wr.drew gb (d.length+j) c' be i q mm s wr _ x0 x3 (by have:=HM1.out;have:=HJ9.out;omega) hlow HMS.out.1 hPd.cap (by rw[hcs];omega) (fun o ho=>hPd.room _ (by omega)) (fun o ho=>hPd.free _ (by omega)) rfl ?_;intro listed W3 y144 y145 y146 y147 y148 y149 y150 y151 y152 y153 hall hJ;obtain⟨_,rfl,hW⟩:=hJ.f9 (hall 9 (by decide));clear hJ;rw[hcl] at hW;obtain⟨hs1,hs2,hs3⟩:=hPd.sets (s.data.toList.take mm) q _ _ (by rw[hcn,HL];omega);rw[←hW] at hs1 hs2 hs3;rw[Pzh d _ q j (by rw[hcn];exact HJ9.out)] at hs1;have hb3:Below W1.heap.size W1 W3:=HP.out.low.trans ((Below.drewN' (Below.refl _ wr) 1 |>.mono HP.out.low.size).trans hs3);have hK3:=HK1.out.below hb3;have HF3:=Lib.hid (HF1.out.trans (Fr.low hb3 (Nat.le_of_lt HK1.out.lt)));have hon:(overS d (s.data.toList.take mm) q).length=d.length+j:=by rw[Kze,hcn];have:=HJ9.out;omega
    have kc:=Jzy (cap:=c') hs1;rw[hon] at kc;have HND:=Lib.hid (hK3.nodeData HA2.out HPI.out.2 ⟨(overS d (s.data.toList.take mm) q).toArray⟩);obtain⟨y0,_,y3⟩:=HNOD.out W3 hK3;have hn9:=hK3.cp.nodes;rw[HA2.out] at hn9;have f3:=hn9.frozenAt (nd*4+2);clear hn9;clear hW hs1 hs2 hs3 hb3 hK3 hon hPd hBd hlow hcs hcl x0 x3
    dsimp only
    go_upto_region 32 with fail
    clear kc y0 y3 f3;obtain⟨D,hD⟩:∃ D:ByteArray,D=⟨(overS d (s.data.toList.take mm) q).toArray⟩:=⟨_,rfl⟩;rw[←hD] at HND HRK ⊢;generalize W3.setCell ⟨b2,nd*4+2,none⟩ (.string D)=W4 at*;have hK4:=HND.out.1;rw[←HY.out.1] at hK4;obtain⟨x0,_,_,x9⟩:=hK4.opn HPP.out.1 HPP.out.2.1 HHE.out HPP.out.2.2;have x3:W4.cell? ⟨be,i*3+2,none⟩=some (.int .i64 (q:Int)):=by
     refine x9.trans ?_;show some (Value.int .i64 k.procs[p].ends[i].pos)=_;rw[←HY.out.2,HQ.out]
    have hfz:=hK4.cp.ends.at_ p HPP.out.1 HPP.out.2.1;rw[HHE.out] at hfz;have f2:=hfz.frozenAt (i*3+2);have HFIN:=Lib.hid (hK4.endPos HPP.out.1 HPP.out.2.1 HHE.out HPP.out.2.2 ((q:Int)+(mm:Int)));have HF4:=Lib.hid (HF3.out.trans HND.out.2);have HEQ:Hid (({ (setNod k nd { y with data:=D }).procs[p].ends[i] with pos:=(q:Int)+(mm:Int) }:Opn)= { x with pos:=(q:Int)+(mm:Int) }):=by
     show _=_;rw[HY.out.2];rfl
    have w4:wrap64 ((q:Int)+(mm:Int))=(q:Int)+(mm:Int):=by
     have:=wrap64_small (n:=q+mm) (by have:=HMS.out;omega)
     simpa using this
    clear hfz hK4 x9;go_wp2;go_ret2;rw[HRK.out];exact⟨rfl,HF4.out.trans HFIN.out.2,_,by rw[←HEQ.out];exact HFIN.out.1⟩
end
end Go.Proofs.YtdjamdbamkhblacDoor
namespace Go.Proofs.YtdjamdbamkhblacDoor
open Go.RowKit
section
variable {B g:Nat} {a:KA} {k:Krn} {ms:List (Value × Value)} {es:List Value}
theorem write_any (HR:RunC 156) {p i be c:Nat} (s:ByteArray) (w:World) (h:KS B w g a k ms es) (hk:KOk k) (ht:Tab w) (hgB:1<B) (hs:s.size≤maxLen) (hp:p<k.procs.length) (hp':p<es.length) (he:es[p]= .slice (some ⟨be,0,none⟩) k.procs[p].ends.length c) (hi:i<k.procs[p].ends.length)
  (h0:k.procs[p].ends[i].kind≠0) (h2:k.procs[p].ends[i].kind≠2):
  Calls Tryd.prog 122 #[.agg #[.pointer (some ⟨g,0,none⟩)], .pointer (some ⟨be,i*3,none⟩), .string s] w (WritePost B w g ms es (Azw k p i s)):=by
 by_cases hem:empS s=true
 ·exact Izt (c:=c) s w h hs (.inl hem)
 have hem:empS s=false:=by simpa using hem
 by_cases h100:100<s.size
 ·exact Izt (c:=c) s w h hs (.inr h100)
 by_cases h3:k.procs[p].ends[i].kind=3
 ·exact Mz2 s w h hk hp hp' he hi h3 hem (by omega)
 by_cases hd:(k.nodes.getD k.procs[p].ends[i].node.toNat default).kind=2
 ·exact Oz9 HR s w h hk ht hgB hp hp' he hi h0 h2 h3 hd hem (by omega)
 ·exact Jzq s w h hk hp hp' he hi h0 h2 h3 hd hem (by omega)
end
end Go.Proofs.YtdjamdbamkhblacDoor
