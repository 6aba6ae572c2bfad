/- The walk of the reference's writtenAt at a plain file. By an AI agent (xwritatn.py). -/
import Derived.Test.YtdjamdbamkhblacGreatDoorG26
namespace Go.Proofs.YtdjamdbamkhblacGreatDoor
open Go.RowKit
set_option linter.unusedVariables false
set_option linter.unusedSimpArgs false
attribute [local go_sem] After.cell
section
variable {B g:Nat} {a:KA} {k:Krn} {ms:List (Value × Value)} {es:List Value}
def PadQ (W:World) (d:List UInt8) (q:Nat) (V:Value) (wr:World):Prop:=
 W=wr∧∃ j,V= .string ⟨(d++List.replicate j 0).toArray⟩∧d.length+j≤max d.length q
def strLen:Value→Nat
 | .string s=>s.size
 | _=>0
theorem pad0 (s:ByteArray):s=⟨(s.data.toList++List.replicate 0 0).toArray⟩:=by
 apply ByteArray.ext;simp
theorem Lza (s:ByteArray) (j:Nat):(⟨(s.data.toList++List.replicate j 0).toArray⟩:ByteArray).size=s.size+j:=by
 show ((s.data.toList++List.replicate j 0).toArray).size=_;rw[List.size_toArray,List.length_append,List.length_replicate,Array.length_toList];rfl
theorem Nzs (d:List UInt8) (j:Nat):(⟨(d++List.replicate j 0).toArray⟩:ByteArray)++⟨#[0]⟩=⟨(d++List.replicate (j+1) 0).toArray⟩:=by
 apply ByteArray.ext;rw[ByteArray.data_append];simp only[List.push_toArray,List.append_toArray,Array.append_singleton];rw[List.replicate_succ',List.append_assoc]
theorem Qzc (d:List UInt8) (O D R:ByteArray) (q j:Nat) (hO:O=⟨(d++List.replicate j 0).toArray⟩) (hj:d.length+j=max d.length q) (hR:R=cutS O (q+D.size) O.size∨(O.size≤q+D.size∧R=⟨#[]⟩)):
  cutS O 0 q++D++R=⟨(overS d D.data.toList q).toArray⟩:=by
 have e:O.data.toList=d++List.replicate j 0:=by rw[hO]
 have es:O.size=d.length+j:=by
  have:O.data.toList.length=O.size:=by simp
  rw[←this,e];simp
 have ed:D.data.toList.length=D.size:=by simp
 have hr:R.data.toList=d.drop (q+D.size):=by
  rcases hR with h|⟨h1,h2⟩
  ·rw[h]
   show List.drop (q+D.size) (List.take O.size O.data.toList)=_;rw[List.take_of_length_le (by simp),e,List.drop_append,List.drop_replicate,show j - (q+D.size - d.length)=0 by omega];simp
  ·rw[h2,List.drop_eq_nil_of_le (by omega)]
 apply ByteArray.ext;rw[ByteArray.data_append,ByteArray.data_append];apply Array.ext';simp only[Array.toList_append,hr];show List.drop 0 (List.take q O.data.toList)++D.data.toList++_=_;unfold overS;rw[List.drop_zero,e,ed,show j=q - d.length by omega]
set_option maxRecDepth 100000 in
set_option maxHeartbeats 8000000 in
theorem Fzy {p i:Nat} (s:ByteArray) (w:World) (h:KS B w g a k ms es) (hk:KOk k) (ht:Tab w) (hp:p<4) (hi:i<6)
  (h3:((k.procs.getD p default).ends.getD i default).kind≠3) (hk2:((k.procs.getD p default).ends.getD i default).kind≠2) (hd:(k.nodes.getD ((k.procs.getD p default).ends.getD i default).node.toNat default).kind≠2) (hbg:100 - ((k.procs.getD p default).ends.getD i default).pos.toNat<s.size) (hs1:1≤s.size) (hs2:s.size≤100) (h0:((k.procs.getD p default).ends.getD i default).kind≠0):
  Calls Tryz.prog 68 #[.pointer (some ⟨g,0,none⟩), .int .i64 (p:Int), .int .i64 (i:Int), .string s] w (Azd B w g ms es (Cz3 k p i s)):=by
 have hpl:p<k.procs.length:=by rw[hk.l4];exact hp
 have e6:k.procs[p].ends.length=6:=by have:=Bzb hk hp;rwa [Az3 hpl] at this
 have hil:i<k.procs[p].ends.length:=by omega
 obtain⟨b4,be,c,hp',ha4,_,hb4,he,hbe,hbel,_,y0,y1⟩:=h.prcAt hpl (by omega);have HO:Hid (∀ W:World,Below w.heap.size w W→be<W.heap.size∧W.cell? ⟨be,i*3,none⟩=some (.int .i64 k.procs[p].ends[i].kind)∧W.cell? ⟨be,i*3+1,none⟩=some (.int .i64 k.procs[p].ends[i].node)∧W.cell? ⟨be,i*3+2,none⟩=some (.int .i64 k.procs[p].ends[i].pos)):=fun W hW=>(h.below hW).opn hpl hp' he hil
 have HEO:Hid (endOk k k.procs[p].ends[i]=true):=by
  have:=Cz6 hk (p:=p) (i:=i) hp;rw[Az3 hpl,Az3 hil] at this;exact this
 have HUN:Hid ((k.procs.getD p default).ends.getD i default=k.procs[p].ends[i]):=by
  show _=_;rw[Az3 hpl,Az3 hil]
 rw[HUN.out] at h0 h3 hk2 hd hbg;obtain⟨x,hx⟩:∃ x,x=k.procs[p].ends[i]:=⟨_,rfl⟩;rw[←hx] at HO HEO HUN h0 h3 hk2 hd hbg;have HBG:=Lib.hid hbg;clear hbg;have hb2:=(Az6 w (.cells #[.int .i64 0, .int .i64 0, .string ⟨#[]⟩] 36)).alloc (Az6 w _).size (.cells #[.int .i64 x.kind, .int .i64 x.node, .int .i64 x.pos] 54);have HN:Hid (Blk ((w.alloc (.cells #[.int .i64 0, .int .i64 0, .string ⟨#[]⟩] 36)).alloc (.cells #[.int .i64 x.kind, .int .i64 x.node, .int .i64 x.pos] 54)) (w.heap.size+1) 54 #[.int .i64 x.kind, .int .i64 x.node, .int .i64 x.pos]):=Blk.new' (by simp);have HA:=Lib.hid ((Blk.new w 36 #[.int .i64 0, .int .i64 0, .string ⟨#[]⟩]).alloc (.cells #[.int .i64 x.kind, .int .i64 x.node, .int .i64 x.pos] 54));have HB:=Lib.hid hb2;have H0:=Lib.hid h;have HK:=Lib.hid hk;have HT:=Lib.hid ht;have HE:=Lib.hid (show p<k.procs.length∧x=k.procs[p].ends[i] from ⟨hpl,hx⟩);have HES:=Lib.hid he;have HP:=Lib.hid (show p<k.procs.length∧p<es.length∧i<k.procs[p].ends.length from ⟨hpl,hp',hil⟩);have HA4:=Lib.hid ha4;obtain⟨c0,c1,c2,c3,c4⟩:=h.c5;rw[hk.l4,ha4] at c4;rw[e6] at y1;obtain⟨z0,z1,z2,z3⟩:=HO.out w (Below.refl _ _);have gl:=h.blk.lt;have hpi:(p:Int)<4:=by omega
 have hii:(i:Int)<6:=by omega
 clear h hk ht hx hb2 he ha4 e6;go_enter Tryz.func68,Tryz.ntmps68;go_upto_region 2 with fail
 generalize (w.alloc (.cells #[.int .i64 0, .int .i64 0, .string ⟨#[]⟩] 36)).alloc (.cells #[.int .i64 x.kind, .int .i64 x.node, .int .i64 x.pos] 54)=W2 at*;clear c0 c1 c2 c3 c4 z0 z1 z2 z3 gl y0 y1 hb4 hbe hbel;have HF:Hid (Fr B w W2):=Fr.low HB.out (Nat.le_of_lt H0.out.lt);have HLT:Hid (B≤w.heap.size):=Nat.le_of_lt H0.out.lt;obtain⟨r0,r1,r2⟩:W2.cell? ⟨w.heap.size,0,none⟩=some (.int .i64 0)∧W2.cell? ⟨w.heap.size,1,none⟩=some (.int .i64 0)∧W2.cell? ⟨w.heap.size,2,none⟩=some (.string ⟨#[]⟩):=⟨HA.out.cell 0,HA.out.cell 1,HA.out.cell 2⟩;obtain⟨-, -, -,rf0,rf1,rf2,rl⟩:=HA.out.a3;obtain⟨n0,n1,n2⟩:W2.cell? ⟨w.heap.size+1,0,none⟩=some (.int .i64 x.kind)∧W2.cell? ⟨w.heap.size+1,1,none⟩=some (.int .i64 x.node)∧W2.cell? ⟨w.heap.size+1,2,none⟩=some (.int .i64 x.pos):=⟨HN.out.cell 0,HN.out.cell 1,HN.out.cell 2⟩;have nl:=HN.out.lt;have HK2:=Lib.hid (H0.out.below HB.out);have HV:Hid (Cz3 k p i s=Azh k p i s):=by
  show _=_;unfold Cz3;rw[HUN.out,if_neg hk2]
 have q3:(x.kind == 3)=false:=by rw[beq_eq_false_iff_ne];exact h3
 have q2:(x.kind == 2)=false:=by rw[beq_eq_false_iff_ne];exact hk2
 have HIN:=Lib.hid (Azi (s.size:Int) 1 100 W2);rw[Azl (by omega) (by omega)] at HIN;obtain⟨_,no0,no8,nk,p0,p1⟩:=Dzd HEO.out h0 hk2 h3;obtain⟨nd,hnd⟩:∃ nd:Nat,x.node=(nd:Int):=⟨x.node.toNat,by omega⟩;have l2:=HK.out.l2;have hnl:nd<k.nodes.length:=by omega
 have hgd:k.nodes.getD x.node.toNat default=k.nodes[nd]:=by rw[hnd,Int.toNat_natCast,Az3 hnl]
 have hno:Bz6 k.mods.length k.nodes[nd]=true:=by
  have:=Ezl HK.out (i:=nd) (by omega)
  rwa [Az3 hnl] at this
 rw[hgd] at nk;have HRK:Hid (Azh k p i s=if min s.size (100 - x.pos.toNat)=0 then (k,ansE 8) else (setEnd (setNod k nd { k.nodes[nd] with data:=⟨(overS k.nodes[nd].data.data.toList (s.data.toList.take (min s.size (100 - x.pos.toNat))) x.pos.toNat).toArray⟩ }) p i { x with pos:=x.pos+(min s.size (100 - x.pos.toNat):Nat) },ansN (min s.size (100 - x.pos.toNat)))):=by
  show _=_;unfold Azh;simp only;rw[HUN.out,if_neg (fun h=>by
   rcases h with h|h
   ·unfold empS at h
    simp only[beq_iff_eq] at h;omega
   ·omega),if_neg h3,hgd,if_neg (by rw[←hgd];exact hd),hnd,Int.toNat_natCast]
 obtain⟨y,hy⟩:∃ y,y=k.nodes[nd]:=⟨_,rfl⟩;rw[←hy] at HRK hno nk;obtain⟨b2,ha2,_,hb2⟩:=Azf HK2.out.cp.nodes (by omega);have e2:=HK2.out.c5.2.2.1;rw[ha2] at e2;obtain⟨bb,oo,hbb,_,hcc⟩:=HK2.out.krn.nodes (by omega);rw[ha2] at hbb;cases hbb
 have h4:=hcc nd hnl;rw[←hy,Nat.zero_add] at h4;rw[hnd] at n1;have HND:=Lib.hid hnd;have HNO:=Lib.hid hno;have HPI:=Lib.hid (show x.node=(nd:Int)∧nd<k.nodes.length from ⟨hnd,hnl⟩);have HR17:=Lib.hid (And.intro e2 (And.intro n1 (And.intro hb2 h4)));have gl:=HK2.out.blk.lt;rw[hgd, ←hy] at hd;have HY:=Lib.hid hy;have HNDN:=Lib.hid (And.intro nk hd);have HA2:=Lib.hid ha2;clear hcc h4 hy hnd hgd hno e2 hb2 h3 hk2 l2 hd;go_wp2_with fail;refine HIN.out.mono ?_;rintro e w1 ⟨rfl,rfl⟩;go_wp2_with fail;obtain⟨e2,n1',hb2,h4a,h4b,h4c,h4d⟩:=HR17.out;refine Fzf W2 g b2 a.c2 k.nodes.length (w.heap.size+1) nd y W2 _ (Bz4 _) gl e2 nl n1' hb2 h4a h4b h4c h4d hnl ?_;clear e2 n1' hb2 h4a h4b h4c h4d HR17;intro listed W y11 y88 y89 y90 y91 y92 y93 y94 y95 hall hJ;obtain⟨bn,rfl,hge,hbl⟩:=hJ.f9 (hall 9 (by decide));have hw:=hJ.w;have HAW:=Lib.hid (HA.out.below hw HA.out.lt);have HNW:=Lib.hid (HN.out.below hw HN.out.lt);have HKW:=Lib.hid (HK2.out.below hw);have HFW:=Lib.hid (HF.out.trans (Fr.low hw (Nat.le_of_lt HK2.out.lt)));have HBW:=Lib.hid (HB.out.trans (hw.mono HB.out.size));have HBL:=Lib.hid hbl;clear hJ hw hbl hge r0 r1 r2 rf0 rf1 rf2 rl n0 n1 n2 nl gl;obtain⟨r0,r1,r2⟩:W.cell? ⟨w.heap.size,0,none⟩=some (.int .i64 0)∧W.cell? ⟨w.heap.size,1,none⟩=some (.int .i64 0)∧W.cell? ⟨w.heap.size,2,none⟩=some (.string ⟨#[]⟩):=⟨HAW.out.cell 0,HAW.out.cell 1,HAW.out.cell 2⟩;obtain⟨-, -, -,rf0,rf1,rf2,rl⟩:=HAW.out.a3;obtain⟨n0,n1,n2⟩:W.cell? ⟨w.heap.size+1,0,none⟩=some (.int .i64 x.kind)∧W.cell? ⟨w.heap.size+1,1,none⟩=some (.int .i64 x.node)∧W.cell? ⟨w.heap.size+1,2,none⟩=some (.int .i64 x.pos):=⟨HNW.out.cell 0,HNW.out.cell 1,HNW.out.cell 2⟩;have nl:=HNW.out.lt;obtain⟨m0,m1,m2,m3⟩:W.cell? ⟨bn,0,none⟩=some (.string y.name)∧W.cell? ⟨bn,1,none⟩=some (.int .i64 y.kind)∧W.cell? ⟨bn,2,none⟩=some (.string y.data)∧W.cell? ⟨bn,3,none⟩=some (.int .i64 y.unit):=⟨HBL.out.cell 0,HBL.out.cell 1,HBL.out.cell 2,HBL.out.cell 3⟩;have sl:=HBL.out.lt;have hd2:(y.kind == 2)=false:=by rw[beq_eq_false_iff_ne];exact HNDN.out.2
 obtain⟨_,_,hds⟩:=Czb HNO.out HNDN.out.1 HNDN.out.2;obtain⟨q,hq⟩:∃ q:Nat,x.pos=(q:Int):=⟨x.pos.toNat,by omega⟩;rw[hq,Int.toNat_natCast] at HRK;rw[hq] at n2;have hq100:q≤100:=by omega
 have HQ:=Lib.hid hq;have HDS:=Lib.hid hds;clear p0 p1 hq hds;obtain⟨mm,hmm⟩:∃ mm,mm=min s.size (100 - q):=⟨_,rfl⟩;rw[←hmm] at HRK;have HMM:=Lib.hid hmm;by_cases h100:100≤q
 ·have HV2:Hid (Azh k p i s=(k,ansE 8)):=by
   show _=_;rw[HRK.out,if_pos (by omega)]
  have t1:(100:Int)≤(q:Int):=by omega
  have HKF:=Lib.hid (HKW.out.ans3 HAW.out HLT.out (.int .i64 8) (.int .i64 0) (.string ⟨#[]⟩));clear h100 hmm;go_wp2;refine bodyPost_ret (v:= .agg #[.int .i64 8, .int .i64 0, .string ⟨#[]⟩]) (by simp[results,Tryz.results68,go_sem,r0,r1,r2]) rfl ?_;unfold Azd;rw[HV.out,HV2.out];exact⟨rfl,HFW.out.ans3 (Nat.le_refl _) HLT.out _ _ _,_,HKF.out.1⟩
 have HV2:Hid (Azh k p i s=(setEnd (setNod k nd { y with data:=⟨(overS y.data.data.toList (s.data.toList.take mm) q).toArray⟩ }) p i { x with pos:=(q:Int)+(mm:Nat) },ansN mm)):=by
  show _=_;rw[HRK.out,if_neg (by omega)]
 have t1:¬ (100:Int)≤(q:Int):=by omega
 have HM1:Hid (1≤mm∧q+mm≤100):=by show 1≤mm∧q+mm≤100;omega
 clear HRK h100;by_cases hbig:100 - q<s.size
 ·have t2:100 - (q:Int)<(s.size:Int):=by omega
  have t3:(100 - (q:Int))≤(s.size:Int):=by omega
  have t4:0≤100 - (q:Int):=by omega
  clear hmm hbig;go_upto_region 31 with fail
  simp only[Azz];obtain⟨D,hD⟩:∃ D,D=cutS s 0 (100 - q):=⟨_,rfl⟩;rw[←hD];have hm9:mm=100 - q:=by have:=HMM.out;omega
  have hDs:D.size=mm:=by rw[hD,Bz1 _ _ _ (by omega)];omega
  have hDl:D.data.toList=s.data.toList.take mm:=by rw[hD,hm9];simp[cutS]
  have HV3:Hid (Azh k p i s=(setEnd (setNod k nd { y with data:=⟨(overS y.data.data.toList D.data.toList q).toArray⟩ }) p i { x with pos:=(q:Int)+(D.size:Nat) },ansN D.size)):=by
   show _=_;rw[HV2.out,hDs,hDl]
  clear hD hDl hm9;have hD100:D.size≤100:=by have:=HM1.out;omega
  have hqD:q+D.size≤100:=by have:=HM1.out;omega
  have hD1:1≤D.size:=by have:=HM1.out;omega
  clear hDs HV2 HMM;go_wp2;go_loopw [15] (fun V wr=>PadQ W y.data.data.toList q V wr) (fun V _=>q - strLen V)
  case atStart=>exact⟨rfl,0,congrArg _ (pad0 _),by omega⟩
  case round=>
   obtain⟨rfl,j,rfl,hj⟩:=hrel;obtain⟨O,hO⟩:∃ O:ByteArray,O=⟨(y.data.data.toList++List.replicate j 0).toArray⟩:=⟨_,rfl⟩;rw[←hO];have hOs:O.size=y.data.size+j:=by rw[hO];exact Lza _ _
   have hdl9:y.data.data.toList.length=y.data.size:=by simp
   have hds9:=HDS.out;rw[hdl9] at hj;by_cases hlt:O.size<q
   ·have t5:(O.size:Int)<(q:Int):=by omega
    have hcat:¬ (9223372036854775807<O.size+1):=by omega
    have HO:=Lib.hid (And.intro hO (show y.data.size+(j+1)≤max y.data.size q by omega));clear hO hj hOs hdl9 hds9;go_wp2;refine⟨⟨rfl,j+1,by rw[HO.out.1];exact congrArg _ (Nzs _ _),by rw[Array.length_toList];exact HO.out.2⟩,?_⟩;change q - (O++⟨#[0]⟩).size<q - O.size;rw[ByteArray.size_append,show (⟨#[0]⟩:ByteArray).size=1 from rfl];omega
   ·have t5:¬ (O.size:Int)<(q:Int):=by omega
    have HOB:=Lib.hid (fun R hR=>Qzc y.data.data.toList O D R q j hO (by rw[hdl9];omega) hR);have hO200:O.size≤200:=by omega
    have hqO:q≤O.size:=by omega
    have w5:IntKind.i64.wrap ((q:Int)+(D.size:Int))=(q:Int)+(D.size:Int):=Go.IntWalk.i64_in _ (by omega);clear hO hj hOs hdl9 hds9;by_cases hgt:q+D.size<O.size
    ·have t6:(q:Int)+(D.size:Int)<(O.size:Int):=by omega
     have t7:(q:Int)+(D.size:Int)≤(O.size:Int):=by omega
     have t8:(0:Int)≤(q:Int)+(D.size:Int):=by omega
     clear hgt;go_upto_region 37 with fail
     try simp only[Azz]
     obtain⟨R,hR⟩:∃ R,R=cutS O (q+D.size) O.size:=⟨_,rfl⟩;rw[←hR];have HRR:Hid (cutS O 0 q++D++R=⟨(overS y.data.data.toList D.data.toList q).toArray⟩):=HOB.out R (.inl hR);have hR2:R.size≤200:=by rw[hR,Bz1 _ _ _ (Nat.le_refl _)];omega
     clear hR;obtain⟨b4',be',c',hp2,ha4',_,hb4,he2,_,hbe,_,_,y1⟩:=HKW.out.prcAt HP.out.1 (by have:=HP.out.2.2;omega);have HK5:=Lib.hid (And.intro ha4' he2);obtain⟨c0,c1,c2,c3,c4⟩:=HKW.out.c5;rw[HK.out.l2,HA2.out] at c2;have gl:=HKW.out.blk.lt;obtain⟨bb,oo,hbb,b2l,hcc⟩:=HKW.out.krn.nodes (by have:=HPI.out.2;omega);rw[HA2.out] at hbb;cases hbb
     obtain⟨_,_,yy2,_⟩:=hcc nd HPI.out.2;rw[Nat.zero_add, ←HY.out] at yy2;have hn9:=HKW.out.cp.nodes;rw[HA2.out] at hn9;have f3:=hn9.frozenAt (nd*4+2);have nd8:(nd:Int)<8:=by have:=HPI.out.2;have:=HK.out.l2;omega
     clear n1;have n1:W.cell? ⟨w.heap.size+1,1,none⟩=some (.int .i64 (nd:Int)):=by rw[←HPI.out.1];exact HNW.out.cell 1
     clear hn9 hcc;have k1:¬ (9223372036854775807<min q O.size+D.size):=by omega
     have k2:¬ (9223372036854775807<min q O.size+D.size+R.size):=by omega
     have k3:¬ (9223372036854775807<q+D.size):=by omega
     have k4:¬ (9223372036854775807<q+D.size+R.size):=by omega
     have k5:¬ (9223372036854775807<(cutS O 0 q).size+D.size):=by rw[Bz1 _ _ _ hqO];omega
     have k6:¬ (9223372036854775807<(O.extract 0 q).size+D.size):=by rw[Azz];exact k5
     go_still_tail 14,(by kernel_rfl);change wpList _ _ _ _ _ W.drew;go_upto_region 38 with fail
     try simp only[Azz]
     rw[HRR.out];obtain⟨DD,hDD⟩:∃ DD:ByteArray,DD=⟨(overS y.data.data.toList D.data.toList q).toArray⟩:=⟨_,rfl⟩;rw[←hDD] at HV3 ⊢;have HND:=Lib.hid ((HKW.out.below (Below.drewN' (Below.refl _ W) 1)).nodeData HA2.out HPI.out.2 DD);rw[←HY.out] at HND;have HA5:=Lib.hid (HND.out.2.blk (HAW.out.drewN 1) (by decide));have hn9:(W.drew).ownsRow B 49 4 (.slice a.a2 k.nodes.length a.c2) k.nodes.length (Azk k.nodes):=(HKW.out.below (Below.drewN' (Below.refl _ W) 1)).cp.nodes;rw[HA2.out] at hn9;have HN5:=Lib.hid ((HNW.out.drewN 1).tch (Czc hn9 (nd*4+2) (.string DD)).2 (by decide));clear hn9;have HF5:=Lib.hid ((Fr.drewN HFW.out 1).trans HND.out.2);refine(show ∀ W7:World,KS B W7 g a (setNod k nd { y with data:=DD }) ms es→Blk W7 w.heap.size 36 #[.int .i64 0, .int .i64 0, .string ⟨#[]⟩]→Blk W7 (w.heap.size+1) 54 #[.int .i64 x.kind, .int .i64 x.node, .int .i64 x.pos]→Fr B w W7→Code.wp _ _ _ _ W7 from ?_) _ HND.out.1 HA5.out HN5.out HF5.out;clear HND HA5 HN5 HF5 HAW HNW HFW HBW HBL hb4 hbe y1 c0 c1 c2 c3 c4 gl b2l yy2 f3 n0 n1 n2 nl r0 r1 r2 rf0 rf1 rf2 rl m0 m1 m2 m3 sl k1 k2 k3 k4 k5 k6 hDD HRR;intro W7 hK7 hA7 hN7 hF7;have HK7:=Lib.hid hK7;have HA7:=Lib.hid hA7;have HN7:=Lib.hid hN7;have HF7:=Lib.hid hF7;have hEF:∃ (b4 be c:Nat) (hp2:p<es.length),a.a4=some ⟨b4,0,none⟩∧b4<W7.heap.size∧es[p]= .slice (some ⟨be,0,none⟩) k.procs[p].ends.length c∧be<W7.heap.size∧W7.cell? ⟨b4,p*2+1,none⟩=some (.slice (some ⟨be,0,none⟩) k.procs[p].ends.length c)∧W7.cell? ⟨be,i*3+2,none⟩=some (.int .i64 k.procs[p].ends[i].pos)∧W7.frozen? ⟨be,i*3+2,none⟩=false:=by
      obtain⟨b4',be',c',hp2,ha4',_,hb4,he2,_,hbe,_,_,y1⟩:=hK7.prcAt HP.out.1 (show 0<k.procs[p].ends.length by have:=HP.out.2.2;omega);obtain⟨_,_,_,z3⟩:=hK7.opn HP.out.1 hp2 he2 HP.out.2.2;have hfz:=hK7.cp.ends.at_ p HP.out.1 hp2;rw[he2] at hfz;exact⟨b4',be',c',hp2,ha4',hb4,he2,hbe,y1,z3,hfz.frozenAt (i*3+2)⟩
     obtain⟨b4',be',c',hp2,ha4',hb4,he2,hbe,y1,z3,f2⟩:=hEF;have c4:W7.cell? ⟨g,4,none⟩=some (.slice a.a4 k.procs.length a.c4):=HK7.out.c5.2.2.2.2;rw[HK.out.l4,ha4'] at c4;have e6:k.procs[p].ends.length=6:=by have:=Bzb HK.out hp;rwa [Az3 HP.out.1] at this
     rw[e6] at y1;have gl:=HK7.out.blk.lt;have n2:W7.cell? ⟨w.heap.size+1,2,none⟩=some (.int .i64 (q:Int)):=by rw[←HQ.out];exact HN7.out.cell 2
     have nl:=HN7.out.lt;have w8:wrap64 ((q:Int)+(D.size:Int))=(q:Int)+(D.size:Int):=by
      have:=wrap64_small (n:=q+D.size) (by omega)
      simpa using this
     have HFIN:Hid (KS B ((W7.drew).setCell ⟨be',i*3+2,none⟩ (.int .i64 ((q:Int)+(D.size:Int)))) g a (setEnd (setNod k nd { y with data:=DD }) p i { x with pos:=(q:Int)+(D.size:Int) }) ms es∧Fr B W7.drew ((W7.drew).setCell ⟨be',i*3+2,none⟩ (.int .i64 ((q:Int)+(D.size:Int))))):=by
      have h9:=(HK7.out.below (Below.drewN' (Below.refl _ W7) 1)).endPos HP.out.1 hp2 he2 HP.out.2.2 ((q:Int)+(D.size:Int));have heq:(({ (setNod k nd { y with data:=DD }).procs[p].ends[i] with pos:=(q:Int)+(D.size:Int) }:Opn)= { x with pos:=(q:Int)+(D.size:Int) }):=by
       rw[HE.out.2];rfl
      rw[heq] at h9;exact h9
     clear e6 hK7 hA7 hN7 hF7;go_still_tail 14,(by kernel_rfl);change wpList _ _ _ _ _ W7.drew;have HA8:=Lib.hid (HFIN.out.2.blk (HA7.out.drewN 1) (by decide));have HF8:=Lib.hid ((Fr.drewN HF7.out 1).trans HFIN.out.2);go_upto_region 39 with fail
     refine(show ∀ W9:World,KS B W9 g a (setEnd (setNod k nd { y with data:=DD }) p i { x with pos:=(q:Int)+(D.size:Int) }) ms es→Blk W9 w.heap.size 36 #[.int .i64 0, .int .i64 0, .string ⟨#[]⟩]→Fr B w W9→Code.wp _ _ _ _ W9 from ?_) _ HFIN.out.1 HA8.out HF8.out;clear HFIN HA8 HF8 HK7 HA7 HN7 HF7 hb4 hbe y1 z3 f2 c4 gl n2 nl;intro W9 hK9 hA9 hF9;have HK9:=Lib.hid hK9;have HA9:=Lib.hid hA9;have HF9:=Lib.hid hF9;have HKF:=Lib.hid (HK9.out.ans3 HA9.out HLT.out (.int .i64 0) (.int .i64 (D.size:Int)) (.string ⟨#[]⟩));clear hK9 hA9 hF9;obtain⟨r0,r1,r2⟩:W9.cell? ⟨w.heap.size,0,none⟩=some (.int .i64 0)∧W9.cell? ⟨w.heap.size,1,none⟩=some (.int .i64 0)∧W9.cell? ⟨w.heap.size,2,none⟩=some (.string ⟨#[]⟩):=⟨HA9.out.cell 0,HA9.out.cell 1,HA9.out.cell 2⟩;obtain⟨-, -, -,rf0,rf1,rf2,rl⟩:=HA9.out.a3;go_wp2;refine bodyPost_ret (v:= .agg #[.int .i64 0, .int .i64 (D.size:Int), .string ⟨#[]⟩]) (by simp[results,Tryz.results68,go_sem,r0,r1,r2]) rfl ?_;unfold Azd;rw[HV.out,HV3.out];exact⟨rfl,HF9.out.ans3 (Nat.le_refl _) HLT.out _ _ _,_,HKF.out.1⟩
    ·have t6:¬ (q:Int)+(D.size:Int)<(O.size:Int):=by omega
     go_upto_region 37 with fail
     try simp only[Azz]
     obtain⟨R,hR⟩:∃ R:ByteArray,R=⟨#[]⟩:=⟨_,rfl⟩;have HRR:Hid (cutS O 0 q++D++R=⟨(overS y.data.data.toList D.data.toList q).toArray⟩):=HOB.out R (.inr ⟨by omega,hR⟩);have hR2:R.size≤200:=by rw[hR];decide
     rw[←hR];clear hR;obtain⟨b4',be',c',hp2,ha4',_,hb4,he2,_,hbe,_,_,y1⟩:=HKW.out.prcAt HP.out.1 (by have:=HP.out.2.2;omega);have HK5:=Lib.hid (And.intro ha4' he2);obtain⟨c0,c1,c2,c3,c4⟩:=HKW.out.c5;rw[HK.out.l2,HA2.out] at c2;have gl:=HKW.out.blk.lt;obtain⟨bb,oo,hbb,b2l,hcc⟩:=HKW.out.krn.nodes (by have:=HPI.out.2;omega);rw[HA2.out] at hbb;cases hbb
     obtain⟨_,_,yy2,_⟩:=hcc nd HPI.out.2;rw[Nat.zero_add, ←HY.out] at yy2;have hn9:=HKW.out.cp.nodes;rw[HA2.out] at hn9;have f3:=hn9.frozenAt (nd*4+2);have nd8:(nd:Int)<8:=by have:=HPI.out.2;have:=HK.out.l2;omega
     clear n1;have n1:W.cell? ⟨w.heap.size+1,1,none⟩=some (.int .i64 (nd:Int)):=by rw[←HPI.out.1];exact HNW.out.cell 1
     clear hn9 hcc;have k1:¬ (9223372036854775807<min q O.size+D.size):=by omega
     have k2:¬ (9223372036854775807<min q O.size+D.size+R.size):=by omega
     have k3:¬ (9223372036854775807<q+D.size):=by omega
     have k4:¬ (9223372036854775807<q+D.size+R.size):=by omega
     have k5:¬ (9223372036854775807<(cutS O 0 q).size+D.size):=by rw[Bz1 _ _ _ hqO];omega
     have k6:¬ (9223372036854775807<(O.extract 0 q).size+D.size):=by rw[Azz];exact k5
     go_still_tail 14,(by kernel_rfl);change wpList _ _ _ _ _ W.drew;go_upto_region 38 with fail
     try simp only[Azz]
     rw[HRR.out];obtain⟨DD,hDD⟩:∃ DD:ByteArray,DD=⟨(overS y.data.data.toList D.data.toList q).toArray⟩:=⟨_,rfl⟩;rw[←hDD] at HV3 ⊢;have HND:=Lib.hid ((HKW.out.below (Below.drewN' (Below.refl _ W) 1)).nodeData HA2.out HPI.out.2 DD);rw[←HY.out] at HND;have HA5:=Lib.hid (HND.out.2.blk (HAW.out.drewN 1) (by decide));have hn9:(W.drew).ownsRow B 49 4 (.slice a.a2 k.nodes.length a.c2) k.nodes.length (Azk k.nodes):=(HKW.out.below (Below.drewN' (Below.refl _ W) 1)).cp.nodes;rw[HA2.out] at hn9;have HN5:=Lib.hid ((HNW.out.drewN 1).tch (Czc hn9 (nd*4+2) (.string DD)).2 (by decide));clear hn9;have HF5:=Lib.hid ((Fr.drewN HFW.out 1).trans HND.out.2);refine(show ∀ W7:World,KS B W7 g a (setNod k nd { y with data:=DD }) ms es→Blk W7 w.heap.size 36 #[.int .i64 0, .int .i64 0, .string ⟨#[]⟩]→Blk W7 (w.heap.size+1) 54 #[.int .i64 x.kind, .int .i64 x.node, .int .i64 x.pos]→Fr B w W7→Code.wp _ _ _ _ W7 from ?_) _ HND.out.1 HA5.out HN5.out HF5.out;clear HND HA5 HN5 HF5 HAW HNW HFW HBW HBL hb4 hbe y1 c0 c1 c2 c3 c4 gl b2l yy2 f3 n0 n1 n2 nl r0 r1 r2 rf0 rf1 rf2 rl m0 m1 m2 m3 sl k1 k2 k3 k4 k5 k6 hDD HRR;intro W7 hK7 hA7 hN7 hF7;have HK7:=Lib.hid hK7;have HA7:=Lib.hid hA7;have HN7:=Lib.hid hN7;have HF7:=Lib.hid hF7;have hEF:∃ (b4 be c:Nat) (hp2:p<es.length),a.a4=some ⟨b4,0,none⟩∧b4<W7.heap.size∧es[p]= .slice (some ⟨be,0,none⟩) k.procs[p].ends.length c∧be<W7.heap.size∧W7.cell? ⟨b4,p*2+1,none⟩=some (.slice (some ⟨be,0,none⟩) k.procs[p].ends.length c)∧W7.cell? ⟨be,i*3+2,none⟩=some (.int .i64 k.procs[p].ends[i].pos)∧W7.frozen? ⟨be,i*3+2,none⟩=false:=by
      obtain⟨b4',be',c',hp2,ha4',_,hb4,he2,_,hbe,_,_,y1⟩:=hK7.prcAt HP.out.1 (show 0<k.procs[p].ends.length by have:=HP.out.2.2;omega);obtain⟨_,_,_,z3⟩:=hK7.opn HP.out.1 hp2 he2 HP.out.2.2;have hfz:=hK7.cp.ends.at_ p HP.out.1 hp2;rw[he2] at hfz;exact⟨b4',be',c',hp2,ha4',hb4,he2,hbe,y1,z3,hfz.frozenAt (i*3+2)⟩
     obtain⟨b4',be',c',hp2,ha4',hb4,he2,hbe,y1,z3,f2⟩:=hEF;have c4:W7.cell? ⟨g,4,none⟩=some (.slice a.a4 k.procs.length a.c4):=HK7.out.c5.2.2.2.2;rw[HK.out.l4,ha4'] at c4;have e6:k.procs[p].ends.length=6:=by have:=Bzb HK.out hp;rwa [Az3 HP.out.1] at this
     rw[e6] at y1;have gl:=HK7.out.blk.lt;have n2:W7.cell? ⟨w.heap.size+1,2,none⟩=some (.int .i64 (q:Int)):=by rw[←HQ.out];exact HN7.out.cell 2
     have nl:=HN7.out.lt;have w8:wrap64 ((q:Int)+(D.size:Int))=(q:Int)+(D.size:Int):=by
      have:=wrap64_small (n:=q+D.size) (by omega)
      simpa using this
     have HFIN:Hid (KS B ((W7.drew).setCell ⟨be',i*3+2,none⟩ (.int .i64 ((q:Int)+(D.size:Int)))) g a (setEnd (setNod k nd { y with data:=DD }) p i { x with pos:=(q:Int)+(D.size:Int) }) ms es∧Fr B W7.drew ((W7.drew).setCell ⟨be',i*3+2,none⟩ (.int .i64 ((q:Int)+(D.size:Int))))):=by
      have h9:=(HK7.out.below (Below.drewN' (Below.refl _ W7) 1)).endPos HP.out.1 hp2 he2 HP.out.2.2 ((q:Int)+(D.size:Int));have heq:(({ (setNod k nd { y with data:=DD }).procs[p].ends[i] with pos:=(q:Int)+(D.size:Int) }:Opn)= { x with pos:=(q:Int)+(D.size:Int) }):=by
       rw[HE.out.2];rfl
      rw[heq] at h9;exact h9
     clear e6 hK7 hA7 hN7 hF7;go_still_tail 14,(by kernel_rfl);change wpList _ _ _ _ _ W7.drew;have HA8:=Lib.hid (HFIN.out.2.blk (HA7.out.drewN 1) (by decide));have HF8:=Lib.hid ((Fr.drewN HF7.out 1).trans HFIN.out.2);go_upto_region 39 with fail
     refine(show ∀ W9:World,KS B W9 g a (setEnd (setNod k nd { y with data:=DD }) p i { x with pos:=(q:Int)+(D.size:Int) }) ms es→Blk W9 w.heap.size 36 #[.int .i64 0, .int .i64 0, .string ⟨#[]⟩]→Fr B w W9→Code.wp _ _ _ _ W9 from ?_) _ HFIN.out.1 HA8.out HF8.out;clear HFIN HA8 HF8 HK7 HA7 HN7 HF7 hb4 hbe y1 z3 f2 c4 gl n2 nl;intro W9 hK9 hA9 hF9;have HK9:=Lib.hid hK9;have HA9:=Lib.hid hA9;have HF9:=Lib.hid hF9;have HKF:=Lib.hid (HK9.out.ans3 HA9.out HLT.out (.int .i64 0) (.int .i64 (D.size:Int)) (.string ⟨#[]⟩));clear hK9 hA9 hF9;obtain⟨r0,r1,r2⟩:W9.cell? ⟨w.heap.size,0,none⟩=some (.int .i64 0)∧W9.cell? ⟨w.heap.size,1,none⟩=some (.int .i64 0)∧W9.cell? ⟨w.heap.size,2,none⟩=some (.string ⟨#[]⟩):=⟨HA9.out.cell 0,HA9.out.cell 1,HA9.out.cell 2⟩;obtain⟨-, -, -,rf0,rf1,rf2,rl⟩:=HA9.out.a3;go_wp2;refine bodyPost_ret (v:= .agg #[.int .i64 0, .int .i64 (D.size:Int), .string ⟨#[]⟩]) (by simp[results,Tryz.results68,go_sem,r0,r1,r2]) rfl ?_;unfold Azd;rw[HV.out,HV3.out];exact⟨rfl,HF9.out.ans3 (Nat.le_refl _) HLT.out _ _ _,_,HKF.out.1⟩
 ·exact absurd (by have h9:=HBG.out;rw[HQ.out,Int.toNat_natCast] at h9;exact h9) hbig
end
end Go.Proofs.YtdjamdbamkhblacGreatDoor
