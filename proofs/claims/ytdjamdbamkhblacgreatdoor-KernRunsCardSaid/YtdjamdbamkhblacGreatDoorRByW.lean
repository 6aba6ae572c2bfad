/- The walk of the reference's byProcess. Condition: the run's contract (RunC), the listed table. By an AI agent (xrbyw.py). -/
import Derived.Test.YtdjamdbamkhblacGreatDoorRByG
import Derived.Test.YtdjamdbamkhblacGreatDoorG27
set_option maxHeartbeats 8000000
set_option maxRecDepth 100000
namespace Go.Proofs.YtdjamdbamkhblacGreatDoor
open Go.RowKit
set_option linter.unusedVariables false
set_option linter.unusedSimpArgs false
attribute [local go_sem] After.cell
section
variable {B g b4 p:Nat} {a:KA} {k:Krn} {ms:List (Value × Value)} {es:List Value}
theorem Rz6 {k:Krn} (h:KOk k):∀ x∈k.nodes,x.kind=0→x=default:=fun x hx h0=>by
 obtain⟨i,hi,rfl⟩:=List.mem_iff_getElem.1 hx;have hb:=((Bz9 hi).1 (h.nodes i hi)).1;have ho:=hb.1;obtain⟨x,hx2⟩:∃ x,x=k.nodes[i]:=⟨_,rfl⟩;rw[←hx2] at ho h0 ⊢;clear hb hx2;obtain⟨nm,kd,dt,un⟩:=x;simp only at h0;subst h0;unfold Bz6 at ho;rw[if_pos rfl,Bool.and_eq_true,Bool.and_eq_true,beq_iff_eq] at ho;obtain⟨⟨e1,e2⟩,e3⟩:=ho;simp only at e1 e2 e3;rw[Czj] at e1 e2;subst e1 e2 e3;rfl
theorem Qzq (kd xp xn xm:Int) (nm dt:ByteArray) (w:World) (h:KS B w g a k ms es) (hx:xp<0∨3<xp):
  Calls Tryz.prog 27 #[.pointer (some ⟨g,0,none⟩), .agg #[.int .i64 kd, .int .i64 xp, .int .i64 xn, .int .i64 xm, .string nm, .string dt]] w (Cz1 B w g ms (k,ansE 6)):=by
 have S0:=RbAt.start h #[.int .i64 kd, .int .i64 xp, .int .i64 xn, .int .i64 xm, .string nm, .string dt];have hin:inB xp 0 3=false:=Azp hx;clear hx;go_enter Tryz.func27,Tryz.ntmps27;go_upto_region 1 with fail
 refine(show ∀ W:World,RbAt B w W g a k ms es #[.int .i64 kd, .int .i64 xp, .int .i64 xn, .int .i64 xm, .string nm, .string dt]→Code.wp _ _ _ _ W from ?_) _ S0;clear S0;intro W0 hS;have HS:=Lib.hid hS;clear hS;obtain⟨-,c1, -, -,cl⟩:=HS.out.ac.a2;simp at c1;have C1:Hid (∀ X:After W0,Calls Tryz.prog 21 #[.int .i64 xp, .int .i64 0, .int .i64 3] X.w' fun e w'=>e= .returned (.bool false)∧X.w'=w'):=fun X=>by rw[←hin];exact Azi _ _ _ _
 go_wp2_with fail;refine Azb (by kernel_rfl) (by kernel_rfl) ?_
 repeat (go_big_quiet_step ((rename_i X;exact Calls.calm_same (C1.out X))))
 refine wpQuiet_nil ?_;rintro W1 ⟨⟨Wq,hbq⟩,hq⟩;replace hq:W1=Wq:=hq;subst hq;have HS1:=Lib.hid (HS.out.below hbq);clear hbq;clear c1 cl HS C1;obtain⟨r0,r1,r2,f0,f1,f2,rl⟩:=HS1.out.rs.a3;simp at r0 r1 r2;go_wp2;refine bodyPost_ret (v:= .agg #[.int .i64 6, .int .i64 0, .string ⟨#[]⟩]) (by simp[results,Tryz.results27,go_sem,r0,r1,r2]) rfl ?_;exact HS1.out.fin _ rfl
theorem Ozr (kd xn xm:Int) (nm dt:ByteArray) (w:World) (h:KS B w g a k ms es) (hk:KOk k) (hp:p<4) (hlv:(k.procs.getD p default).live=false):
  Calls Tryz.prog 27 #[.pointer (some ⟨g,0,none⟩), .agg #[.int .i64 kd, .int .i64 (p:Int), .int .i64 xn, .int .i64 xm, .string nm, .string dt]] w (Cz1 B w g ms ((k,ansE 6))):=by
 have hpl:p<k.procs.length:=by rw[hk.l4];exact hp
 have hel:k.procs[p].ends.length=6:=by have:=Bzb hk hp;rw[Az3 hpl] at this;exact this
 obtain⟨b4,be,c,hp',ha4,hbb4,hlt4,hes,hbe,hlte,hce,z0,z1⟩:=h.prcAt hpl (by omega);rw[Az3 hpl] at hlv;have HUN:Hid (k.procs.getD p default=k.procs[p]):=Az3 hpl;have HKO:=Lib.hid hk;have HES:=Lib.hid hes;have HA4:=Lib.hid ha4;have HD4:Hid (∀ W:World,KS B W g a k ms es→g<W.heap.size∧W.cell? ⟨g,4,none⟩=some (.slice (some ⟨b4,0,none⟩) 4 a.c4)):=fun W hW=>⟨hW.blk.lt,by
  have:=hW.c5.2.2.2.2;rw[ha4,hk.l4] at this;exact this⟩
 have HPL:Hid (∀ W:World,KS B W g a k ms es→b4<W.heap.size∧W.cell? ⟨b4,p*2,none⟩=some (.bool false)∧W.cell? ⟨b4,p*2+1,none⟩=some (.slice (some ⟨be,0,none⟩) 6 c)):=fun W hW=>by
  obtain⟨b5,be',c',_,e5,_,hl5,hes',_,_,_,z0',z1'⟩:=hW.prcAt hpl (by omega);obtain rfl:b4=b5:=by rw[ha4] at e5;injection e5 with e5;injection e5
  rw[hes] at hes';have e6:(some ⟨be,0,none⟩:Option Addr)=some ⟨be',0,none⟩∧c=c':=by injection hes' with q1 q2 q3;exact⟨q1,q3⟩
  rw[hel, ←e6.1, ←e6.2] at z1';rw[hlv] at z0';exact⟨hl5,z0',z1'⟩
 have S0:=RbAt.start h #[.int .i64 kd, .int .i64 (p:Int), .int .i64 xn, .int .i64 xm, .string nm, .string dt];have HLT:=Lib.hid (show B≤w.heap.size from Nat.le_of_lt h.lt);have hp4:(p:Int)<4:=by omega
 clear h hk z0 z1 hes ha4 hlv;go_enter Tryz.func27,Tryz.ntmps27;go_upto_region 1 with fail
 refine(show ∀ W:World,RbAt B w W g a k ms es #[.int .i64 kd, .int .i64 (p:Int), .int .i64 xn, .int .i64 xm, .string nm, .string dt]→Code.wp _ _ _ _ W from ?_) _ S0;clear S0;intro W0 hS;have HS:=Lib.hid hS;clear hS;obtain⟨-,c1, -, -,cl⟩:=HS.out.ac.a2;simp at c1;obtain⟨gl,d4⟩:=HD4.out _ HS.out.ks;obtain⟨bl,z0,z1⟩:=HPL.out _ HS.out.ks;have C1:Hid (∀ X:After W0,Calls Tryz.prog 21 #[.int .i64 (p:Int), .int .i64 0, .int .i64 3] X.w' fun e w'=>e= .returned (.bool true)∧X.w'=w'):=fun X=>by rw[←Azl (n:=(p:Int)) (lo:=0) (hi:=3) (by omega) (by omega)];exact Azi _ _ _ _
 go_wp2_with fail;refine Azb (by kernel_rfl) (by kernel_rfl) ?_
 repeat (go_big_quiet_step ((rename_i X;exact Calls.calm_same (C1.out X))))
 refine wpQuiet_nil ?_;rintro W1 ⟨⟨Wq,hbq⟩,hq⟩;replace hq:W1=Wq:=hq;subst hq;have HS1:=Lib.hid (HS.out.below hbq);clear hbq;clear c1 cl HS C1 gl d4 bl z0 z1;obtain⟨r0,r1,r2,f0,f1,f2,rl⟩:=HS1.out.rs.a3;simp at r0 r1 r2;go_wp2;refine bodyPost_ret (v:= .agg #[.int .i64 6, .int .i64 0, .string ⟨#[]⟩]) (by simp[results,Tryz.results27,go_sem,r0,r1,r2]) rfl ?_;exact HS1.out.fin _ rfl
theorem Ozs (kd xn xm:Int) (nm dt:ByteArray) (w:World) (h:KS B w g a k ms es) (hk:KOk k) (hp:p<4) (hlv:(k.procs.getD p default).live=true) (hlv5:5≤kd) (h11:kd≤11) (HR:RunC 102) (ht:Tab w) (hgB:0<B) (hn:nm.size≤maxLen) (hd:dt.size≤maxLen):
  Calls Tryz.prog 27 #[.pointer (some ⟨g,0,none⟩), .agg #[.int .i64 kd, .int .i64 (p:Int), .int .i64 xn, .int .i64 xm, .string nm, .string dt]] w (Cz1 B w g ms (byK k p ⟨kd,(p:Int),xn,xm,nm,dt⟩)):=by
 have hpl:p<k.procs.length:=by rw[hk.l4];exact hp
 have hel:k.procs[p].ends.length=6:=by have:=Bzb hk hp;rw[Az3 hpl] at this;exact this
 obtain⟨b4,be,c,hp',ha4,hbb4,hlt4,hes,hbe,hlte,hce,z0,z1⟩:=h.prcAt hpl (by omega);rw[Az3 hpl] at hlv;have HUN:Hid (k.procs.getD p default=k.procs[p]):=Az3 hpl;have HKO:=Lib.hid hk;have HLV:=Lib.hid hlv;have HTB:=Lib.hid ht;have HNM:=Lib.hid hn;have HDT:=Lib.hid hd;clear ht hn hd;have HES:=Lib.hid hes;have HA4:=Lib.hid ha4;have HD4:Hid (∀ W:World,KS B W g a k ms es→g<W.heap.size∧W.cell? ⟨g,4,none⟩=some (.slice (some ⟨b4,0,none⟩) 4 a.c4)):=fun W hW=>⟨hW.blk.lt,by
  have:=hW.c5.2.2.2.2;rw[ha4,hk.l4] at this;exact this⟩
 have HPL:Hid (∀ W:World,KS B W g a k ms es→b4<W.heap.size∧W.cell? ⟨b4,p*2,none⟩=some (.bool true)∧W.cell? ⟨b4,p*2+1,none⟩=some (.slice (some ⟨be,0,none⟩) 6 c)):=fun W hW=>by
  obtain⟨b5,be',c',_,e5,_,hl5,hes',_,_,_,z0',z1'⟩:=hW.prcAt hpl (by omega);obtain rfl:b4=b5:=by rw[ha4] at e5;injection e5 with e5;injection e5
  rw[hes] at hes';have e6:(some ⟨be,0,none⟩:Option Addr)=some ⟨be',0,none⟩∧c=c':=by injection hes' with q1 q2 q3;exact⟨q1,q3⟩
  rw[hel, ←e6.1, ←e6.2] at z1';rw[hlv] at z0';exact⟨hl5,z0',z1'⟩
 have S0:=RbAt.start h #[.int .i64 kd, .int .i64 (p:Int), .int .i64 xn, .int .i64 xm, .string nm, .string dt];have HLT:=Lib.hid (show B≤w.heap.size from Nat.le_of_lt h.lt);have hp4:(p:Int)<4:=by omega
 clear h hk z0 z1 hes ha4 hlv;go_enter Tryz.func27,Tryz.ntmps27;go_upto_region 1 with fail
 refine(show ∀ W:World,RbAt B w W g a k ms es #[.int .i64 kd, .int .i64 (p:Int), .int .i64 xn, .int .i64 xm, .string nm, .string dt]→Code.wp _ _ _ _ W from ?_) _ S0;clear S0;intro W0 hS;have HS:=Lib.hid hS;clear hS;obtain⟨-,c1, -, -,cl⟩:=HS.out.ac.a2;simp at c1;obtain⟨gl,d4⟩:=HD4.out _ HS.out.ks;obtain⟨bl,z0,z1⟩:=HPL.out _ HS.out.ks;have C1:Hid (∀ X:After W0,Calls Tryz.prog 21 #[.int .i64 (p:Int), .int .i64 0, .int .i64 3] X.w' fun e w'=>e= .returned (.bool true)∧X.w'=w'):=fun X=>by rw[←Azl (n:=(p:Int)) (lo:=0) (hi:=3) (by omega) (by omega)];exact Azi _ _ _ _
 go_wp2_with fail;refine Azb (by kernel_rfl) (by kernel_rfl) ?_
 repeat (go_big_quiet_step ((rename_i X;exact Calls.calm_same (C1.out X))))
 refine wpQuiet_nil ?_;rintro W1 ⟨⟨Wq,hbq⟩,hq⟩;replace hq:W1=Wq:=hq;subst hq;have HS1:=Lib.hid (HS.out.below hbq);clear hbq;clear c1 cl HS C1 gl d4 bl z0 z1;obtain⟨-,c1, -, -,cl⟩:=HS1.out.ac.a2;simp at c1;obtain⟨gl,d4⟩:=HD4.out _ HS1.out.ks;obtain⟨bl,z0,z1⟩:=HPL.out _ HS1.out.ks;go_wp2_with fail;refine(KS.freeR (lv:=true) HS1.out.ks hpl hp' HES.out hel).mono ?_;rintro e w2 ⟨rfl,hb⟩;have HS2:=Lib.hid (HS1.out.below hb);clear hb HS1;clear c1 cl gl d4 bl z0 z1;obtain⟨fe,hfe⟩:∃ fe,fe=Bzc k.procs[p].ends:=⟨_,rfl⟩;have HFE:=Lib.hid hfe;rw[←hfe];clear hfe;by_cases k5:kd=5
 ·subst k5
  have HV:Hid (byK k p ⟨5,(p:Int),xn,xm,nm,dt⟩=if Azs nm then (if Bzm k nm<0 then (k,ansE 6) else if Bzc k.procs[p].ends<0 then (k,ansE 8) else (setEnd k p (Bzc k.procs[p].ends).toNat ⟨1,Bzm k nm,0⟩,ansN (Bzc k.procs[p].ends).toNat)) else (k,ansE 4)):=by
   show Izx k p nm=_;unfold Izx;rw[HUN.out]
  rw[←HFE.out] at HV;have C7:Hid (∀ X:After w2,Calls Tryz.prog 25 #[.agg #[.slice a.a0 k.mods.length a.c0, .slice a.a1 k.mem.length a.c1, .slice a.a2 k.nodes.length a.c2, .slice a.a3 k.pipes.length a.c3, .slice (some ⟨b4,0,none⟩) 4 a.c4], .string nm] X.w' fun e w'=>e= .returned (.int .i64 (refN k nm))∧Below X.w'.heap.size X.w' w'):=fun X=>Fz6 _ _ _ _ a.a2 a.c2 k nm X.w' HKO.out (HS2.out.ks.below X.h).krn.nodes
  obtain⟨c0, -, -, -,c4, -, -, -, -, -,cl⟩:=HS2.out.ac.a5;simp at c0 c4;obtain⟨gl,d4⟩:=HD4.out _ HS2.out.ks;obtain⟨d0,d1,d2,d3,_⟩:=HS2.out.ks.c5;go_wp2_with fail;refine Azb (by kernel_rfl) (by kernel_rfl) ?_
  repeat (go_big_quiet_step ((rename_i X;exact Calls.calm (C7.out X))))
  refine wpQuiet_nil ?_;rintro W3 ⟨⟨Wq,hbq⟩,hq⟩;replace hq:W3=Wq:=hq;subst hq;have HS3:=Lib.hid (HS2.out.below hbq);clear hbq;clear c0 c4 cl gl d4 d0 d1 d2 d3 C7 HS2;have c4:=HS3.out.ac.cell 4;have cl:=HS3.out.ac.lt;simp at c4;go_wp2_with fail;refine(Bzz nm _ HNM.out).mono ?_;rintro e w' ⟨rfl,rfl⟩;clear c4 cl;cases hnm:Azs nm with
  | false=>
    rw[hnm] at HV;clear hnm;obtain⟨r0,r1,r2,f0,f1,f2,rl⟩:=HS3.out.rs.a3;simp at r0 r1 r2;go_wp2;refine bodyPost_ret (v:= .agg #[.int .i64 4, .int .i64 0, .string ⟨#[]⟩]) (by simp[results,Tryz.results27,go_sem,r0,r1,r2]) rfl ?_;exact HS3.out.fin _ HV.out
  | true=>
    rw[hnm,if_pos rfl] at HV;rw[Jz3 hnm];clear hnm;obtain⟨fi,hfi⟩:∃ fi,fi=Bzm k nm:=⟨_,rfl⟩;rw[←hfi] at HV;rw[←hfi];clear hfi;by_cases h6:fi<0
    ·rw[if_pos h6] at HV
     obtain⟨r0,r1,r2,f0,f1,f2,rl⟩:=HS3.out.rs.a3;simp at r0 r1 r2;go_wp2;refine bodyPost_ret (v:= .agg #[.int .i64 6, .int .i64 0, .string ⟨#[]⟩]) (by simp[results,Tryz.results27,go_sem,r0,r1,r2]) rfl ?_;exact HS3.out.fin _ HV.out
    rw[if_neg h6] at HV;by_cases h8:fe<0
    ·rw[if_pos h8] at HV
     obtain⟨r0,r1,r2,f0,f1,f2,rl⟩:=HS3.out.rs.a3;simp at r0 r1 r2;go_wp2;refine bodyPost_ret (v:= .agg #[.int .i64 8, .int .i64 0, .string ⟨#[]⟩]) (by simp[results,Tryz.results27,go_sem,r0,r1,r2]) rfl ?_;exact HS3.out.fin _ HV.out
    rw[if_neg h8] at HV;obtain⟨i,hi,he,hi0⟩:=Bzw (l:=k.procs[p].ends) (by rw[←HFE.out];omega);have e1:fe=(i:Int):=HFE.out.trans he;subst e1;rw[Int.toNat_natCast] at HV;have hi6:i<6:=by omega
    have HI:=Lib.hid hi;clear he hi0 hi;obtain⟨gl,d4⟩:=HD4.out _ HS3.out.ks;obtain⟨bl,z0,z1⟩:=HPL.out _ HS3.out.ks;obtain⟨el,y0,y1,y2⟩:=HS3.out.ks.opnB hpl hp' HES.out HI.out;have g0:=HS3.out.ks.rdF hpl hp' HES.out (i*3);have g1:=HS3.out.ks.rdF hpl hp' HES.out (i*3+1);have g2:=HS3.out.ks.rdF hpl hp' HES.out (i*3+2);have HN:=Lib.hid (HS3.out.ks.endAll hpl hp' HES.out HI.out (⟨1,fi,0⟩:Opn));go_upto_region 15 with fail
    refine(show ∀ W4:World,RbAt B w W4 g a (setEnd k p i ⟨1,fi,0⟩) ms es _→Code.wp _ _ _ _ W4 from ?_) _ (HS3.out.next HN.out.1 HN.out.2);clear HN HS3 el y0 y1 y2 g0 g1 g2 gl d4 bl z0 z1;intro W4 hZ;have HS4:=Lib.hid hZ;clear hZ;obtain⟨r0,r1,r2,f0,f1,f2,rl⟩:=HS4.out.rs.a3;simp at r0 r1 r2;go_wp2;refine bodyPost_ret (v:= .agg #[.int .i64 0, .int .i64 i, .string ⟨#[]⟩]) (by simp[results,Tryz.results27,go_sem,r0,r1,r2]) rfl ?_;exact HS4.out.fin _ HV.out
 have t5:(kd == 5)=false:=by rw[beq_eq_false_iff_ne];exact k5
 by_cases k9:kd=9
 ·subst k9
  have HV:Hid (byK k p ⟨9,(p:Int),xn,xm,nm,dt⟩=Fz9 k p):=rfl;have HHAS:Hid (∀ (W:World) (kd:Int) (j:Nat),KS B W g a k ms es→Calls Tryz.prog 61 #[.agg #[.slice a.a0 k.mods.length a.c0, .slice a.a1 k.mem.length a.c1, .slice a.a2 k.nodes.length a.c2, .slice a.a3 k.pipes.length a.c3, .slice (some ⟨b4,0,none⟩) 4 a.c4], .int .i64 kd, .int .i64 (j:Int)] W fun e w'=>e= .returned (.bool (hasE k.procs kd (j:Int)))∧Below W.heap.size W w'):=fun W kd j hW=>by
   have:=Cz4 (.slice a.a0 k.mods.length a.c0) (.slice a.a1 k.mem.length a.c1) (.slice a.a2 k.nodes.length a.c2) (.slice a.a3 k.pipes.length a.c3) a.a4 a.c4 k.procs kd (j:Int) W hW.krn.procs (by rw[HKO.out.l4];unfold maxLen;omega);rw[HKO.out.l4,HA4.out] at this;exact this
  obtain⟨c0, -, -, -,cl⟩:=HS2.out.ac.a2;simp at c0;go_wp2_with fail;clear c0 cl;go_loop [8,9] (fun n i=>Cnt 6 i fun j=>n= .int .i64 ((cntF (k.procs[p].ends.take j):Nat):Int)) (fun _ i=>6 - (intOf i).toNat)
  case atStart=>exact⟨0,Nat.zero_le _,rfl,rfl⟩
  case round=>
   obtain⟨j,hj,rfl,rfl⟩:=hrel;by_cases hlt:j<6
   ·have hjl:j<k.procs[p].ends.length:=by omega
    have HST:=Lib.hid (cntF_step hjl);have hj6:(j:Int)<6:=by omega
    obtain⟨gl,d4⟩:=HD4.out _ HS2.out.ks;obtain⟨bl,z0,z1⟩:=HPL.out _ HS2.out.ks;obtain⟨el,y0,y1,y2⟩:=HS2.out.ks.opnB hpl hp' HES.out hjl;obtain⟨x,hx⟩:∃ x,x=k.procs[p].ends[j]:=⟨_,rfl⟩;rw[←hx] at y0 HST;clear y1 y2 hx;obtain⟨n,hn⟩:∃ n,n=cntF (k.procs[p].ends.take j):=⟨_,rfl⟩;have hn6:n≤6:=by rw[hn];unfold cntF;exact Nat.le_trans List.countP_le_length (by rw[List.length_take];omega)
    rw[←hn] at HST;rw[←hn];clear hn;cases h0:(x.kind == 0) with
    | true=>
      rw[h0,if_pos rfl] at HST;go_wp2;go_round
      case rel=>exact⟨j+1,by omega,by go_num,by show Value.int .i64 ((n:Int)+1)=Value.int .i64 ((cntF (k.procs[p].ends.take (j+1)):Nat):Int);rw[HST.out];rfl⟩
      case measure=>simp[intOf];omega
    | false=>
      rw[h0,if_neg (by decide),Nat.add_zero] at HST;go_wp2;go_round
      case rel=>exact⟨j+1,by omega,by go_num,by show Value.int .i64 (n:Int)=Value.int .i64 ((cntF (k.procs[p].ends.take (j+1)):Nat):Int);rw[HST.out];rfl⟩
      case measure=>simp[intOf];omega
   ·obtain rfl:j=6:=by omega
    rw[List.take_of_length_le (by omega)];obtain⟨n,hn⟩:∃ n,n=cntF k.procs[p].ends:=⟨_,rfl⟩;have HCN:=Lib.hid hn;rw[←hn];clear hn hlt hj;have HPF:Hid (pipF k 0= -1):=rfl;by_cases hn2:n<2
    ·have HV2:=Lib.hid (HV.out.trans (Nzu hpl (by rw[←HCN.out];exact hn2)))
     have q2:¬ (2:Int)≤(n:Int):=by omega
     go_wp2_with fail;go_loop [10] (fun i=>i= .int .i64 0) (fun _=>1)
     case atStart=>rfl
     case round=>
      subst hrel;obtain⟨r0,r1,r2,f0,f1,f2,rl⟩:=HS2.out.rs.a3;simp at r0 r1 r2;go_wp2;refine bodyPost_ret (v:= .agg #[.int .i64 8, .int .i64 0, .string ⟨#[]⟩]) (by simp[results,Tryz.results27,go_sem,r0,r1,r2]) rfl ?_;exact HS2.out.fin _ HV2.out
    have q2:(2:Int)≤(n:Int):=by omega
    go_wp2_with fail;go_loopw [10] (fun i wr=>Cnt 6 i fun j=>pipF k j= -1∧RbAt B w wr g a k ms es #[.int .i64 9, .int .i64 (p:Int), .int .i64 xn, .int .i64 xm, .string nm, .string dt]) (fun i _=>6 - (intOf i).toNat)
    case atStart=>exact⟨0,Nat.zero_le _,rfl,HPF.out,HS2.out⟩
    case round=>
     clear HS2;obtain⟨j,hj,rfl,hpf,hZ⟩:=hrel;have HS2:=Lib.hid hZ;clear hZ;by_cases hlt:j<6
     ·have HJ6:=Lib.hid hlt
      have HPJ:=Lib.hid hpf;have hj6:(j:Int)<6:=by omega
      clear hpf;obtain⟨gl,d4⟩:=HD4.out _ HS2.out.ks;obtain⟨d0,d1,d2,d3,_⟩:=HS2.out.ks.c5;have HC:=Lib.hid (HHAS.out _ 2 j HS2.out.ks);cases h2:hasE k.procs 2 (j:Int) with
      | true=>
        rw[h2] at HC;have HH:=Lib.hid h2;clear h2;go_wp2_with fail;refine HC.out.mono ?_;rintro e w3 ⟨rfl,hb⟩;have HS3:=Lib.hid (HS2.out.below hb);clear hb HC;go_wp2;go_roundw
        case rel=>exact⟨j+1,by omega,by go_num,by rw[Dzq HJ6.out,HPJ.out,if_neg (by omega),if_neg (by unfold pipP;rw[HH.out];simp)],HS3.out⟩
        case measure=>simp[intOf];omega
      | false=>
        rw[h2] at HC;have HH2:=Lib.hid h2;clear h2;go_wp2_with fail;refine HC.out.mono ?_;rintro e w3 ⟨rfl,hb⟩;have HS3:=Lib.hid (HS2.out.below hb);clear hb HC d0 d1 d2 d3 d4 gl;obtain⟨gl,d4⟩:=HD4.out _ HS3.out.ks;obtain⟨d0,d1,d2,d3,_⟩:=HS3.out.ks.c5;have HC:=Lib.hid (HHAS.out _ 3 j HS3.out.ks);cases h3:hasE k.procs 3 (j:Int) with
        | true=>
          rw[h3] at HC;have HH:=Lib.hid h3;clear h3;go_wp2_with fail;refine HC.out.mono ?_;rintro e w4 ⟨rfl,hb⟩;have HS4:=Lib.hid (HS3.out.below hb);clear hb HC;go_wp2;go_roundw
          case rel=>exact⟨j+1,by omega,by go_num,by rw[Dzq HJ6.out,HPJ.out,if_neg (by omega),if_neg (by unfold pipP;rw[HH.out];simp)],HS4.out⟩
          case measure=>simp[intOf];omega
        | false=>
          rw[h3] at HC;have HFP:=Lib.hid (Pzi HJ6.out HPJ.out (by unfold pipP;rw[HH2.out,h3];rfl));clear h3;go_wp2_with fail;refine HC.out.mono ?_;rintro e w4 ⟨rfl,hb⟩;have HS4:=Lib.hid (HS3.out.below hb);clear hb HC d0 d1 d2 d3 d4 gl HS2 HS3;obtain⟨i,q,hi,he,hi0,hq,he2,hpk⟩:=Pzk hpl (by rw[←HCN.out];omega) HFP.out;have e1:fe=(i:Int):=HFE.out.trans he;subst e1;have HV2:=Lib.hid (HV.out.trans hpk);have HI:=Lib.hid hi;have HQ:=Lib.hid hq;have hi6:i<6:=by omega
          have hq6:q<6:=by omega
          obtain⟨hp1,hi1,G1,L1⟩:=Dzw hpl HI.out (⟨2,(j:Int),0⟩:Opn);rw[Az3 hp1] at he2;have HF2:=Lib.hid he2;have HL1:=Lib.hid (L1.trans hel);have HLV1:Hid (((setEnd k p i ⟨2,(j:Int),0⟩).procs[p]'hp1).live=k.procs[p].live):=by show _=_;simp[Czs hpl]
          have HE1:Hid (es[p]= .slice (some ⟨be,0,none⟩) ((setEnd k p i ⟨2,(j:Int),0⟩).procs[p]'hp1).ends.length c):=HES.out.trans (congrArg (fun n=>Value.slice (some ⟨be,0,none⟩) n c) L1.symm);clear G1 L1 hi0 he2 hpk he hi hq hi1;obtain⟨gl,d4⟩:=HD4.out _ HS4.out.ks;obtain⟨bl,z0,z1⟩:=HPL.out _ HS4.out.ks;obtain⟨el,y0,y1,y2⟩:=HS4.out.ks.opnB hpl hp' HES.out HI.out;have g0:=HS4.out.ks.rdF hpl hp' HES.out (i*3);have g1:=HS4.out.ks.rdF hpl hp' HES.out (i*3+1);have g2:=HS4.out.ks.rdF hpl hp' HES.out (i*3+2);have HN:=Lib.hid (HS4.out.ks.endAll hpl hp' HES.out HI.out (⟨2,(j:Int),0⟩:Opn));go_upto_region 28 with fail
          refine(show ∀ W5:World,RbAt B w W5 g a (setEnd k p i ⟨2,(j:Int),0⟩) ms es _→Code.wp _ _ _ _ W5 from ?_) _ (HS4.out.next HN.out.1 HN.out.2);clear HN HS4 el y0 y1 y2 g0 g1 g2 gl d4 bl z0 z1;intro W5 hZ;have HS5:=Lib.hid hZ;clear hZ;have HQ1:Hid (q<((setEnd k p i ⟨2,(j:Int),0⟩).procs[p]'hp1).ends.length):=by show _<_;rw[HL1.out];exact hq6
          obtain⟨b5,be',c',_,e5,_,bl,hes',_,_,_,z0,z1⟩:=HS5.out.ks.prcAt hp1 (by rw[HL1.out];omega);obtain rfl:b4=b5:=by rw[HA4.out] at e5;injection e5 with e5;injection e5
          rw[HE1.out] at hes';have e6:(some ⟨be,0,none⟩:Option Addr)=some ⟨be',0,none⟩∧c=c':=by injection hes' with q1 q2 q3;exact⟨q1,q3⟩
          rw[HL1.out, ←e6.1, ←e6.2] at z1;rw[HLV1.out,HLV.out] at z0;have d4:=HS5.out.ks.c5.2.2.2.2;have gl:=HS5.out.ks.blk.lt;rw[HA4.out,show (setEnd k p i ⟨2,(j:Int),0⟩).procs.length=4 by rw[Czs hpl];simpa using HKO.out.l4] at d4;have C28:Hid (∀ X:After W5,Calls Tryz.prog 66 #[.agg #[.bool true, .slice (some ⟨be,0,none⟩) 6 c]] X.w' fun e w'=>e= .returned (.int .i64 (q:Int))∧Below X.w'.heap.size X.w' w'):=fun X=>by
           have:=KS.freeR (lv:=true) (HS5.out.ks.below X.h) hp1 hp' HE1.out HL1.out;rw[HF2.out] at this;exact this
          clear e5 hes' e6;go_wp2_with fail;refine Ez6 18 (by kernel_rfl) (by kernel_rfl) ?_;simp only[List.take_succ_cons,List.take_zero,List.drop_succ_cons,List.drop_zero]
          repeat (go_big_quiet_step ((rename_i X;exact Calls.calm (C28.out X))))
          refine wpQuiet_nil ?_;intro W6 hb6;have HS6:=Lib.hid (HS5.out.below hb6);clear hb6 HS5 C28 d4 gl bl z0 z1;obtain⟨el,y0,y1,y2⟩:=HS6.out.ks.opnB hp1 hp' HE1.out HQ1.out;have g0:=HS6.out.ks.rdF hp1 hp' HE1.out (q*3);have g1:=HS6.out.ks.rdF hp1 hp' HE1.out (q*3+1);have g2:=HS6.out.ks.rdF hp1 hp' HE1.out (q*3+2);have hq6i:(q:Int)<6:=by omega
          have HN:=Lib.hid (HS6.out.ks.endAll hp1 hp' HE1.out HQ1.out (⟨3,(j:Int),0⟩:Opn));go_upto_region 29 with fail
          refine(show ∀ W7:World,RbAt B w W7 g a (setEnd (setEnd k p i ⟨2,(j:Int),0⟩) p q ⟨3,(j:Int),0⟩) ms es _→Code.wp _ _ _ _ W7 from ?_) _ (HS6.out.next HN.out.1 HN.out.2);clear HN HS6 el y0 y1 y2 g0 g1 g2;intro W7 hZ;have HS7:=Lib.hid hZ;clear hZ;obtain⟨r0,r1,r2,f0,f1,f2,rl⟩:=HS7.out.rs.a3;simp at r0 r1 r2;go_wp2;refine bodyPost_ret (v:= .agg #[.int .i64 0, .int .i64 i, .string ⟨#[]⟩]) (by simp[results,Tryz.results27,go_sem,r0,r1,r2]) rfl ?_;exact HS7.out.fin _ HV2.out
     ·obtain rfl:j=6:=by omega
      rw[Hzy] at hpf;have HV2:=Lib.hid (HV.out.trans (Mz6 (by omega)));obtain⟨r0,r1,r2,f0,f1,f2,rl⟩:=HS2.out.rs.a3;simp at r0 r1 r2;go_wp2;refine bodyPost_ret (v:= .agg #[.int .i64 8, .int .i64 0, .string ⟨#[]⟩]) (by simp[results,Tryz.results27,go_sem,r0,r1,r2]) rfl ?_;exact HS2.out.fin _ HV2.out
 have t9:(kd == 9)=false:=by rw[beq_eq_false_iff_ne];exact k9
 by_cases k10:kd=10
 ·subst k10
  have HV:Hid (byK k p ⟨10,(p:Int),xn,xm,nm,dt⟩=if Dz5 k<0 then (k,ansE 8) else ({ k with procs:=k.procs.set (Dz5 k).toNat ⟨true,k.procs[p].ends⟩ },ansN (Dz5 k).toNat)):=by
   show Izm k p=_;unfold Izm;rw[HUN.out]
  have HFP:Hid (Dz5 k=idxF (fun x:Prc=> !x.live) (k.procs.drop 0) 0):=rfl;obtain⟨c0, -, -, -,cl⟩:=HS2.out.ac.a2;simp at c0;go_wp2_with fail;clear c0 cl;go_loop [11] (fun i=>Cnt 4 i fun j=>Hid (Dz5 k=idxF (fun x:Prc=> !x.live) (k.procs.drop j) j)) (fun i=>4 - (intOf i).toNat)
  case atStart=>exact⟨0,Nat.zero_le _,rfl,HFP⟩
  case round=>
   obtain⟨q,hq,rfl,HE⟩:=hrel;clear HFP;by_cases hlt:q<4
   ·have hql:q<k.procs.length:=by rw[HKO.out.l4];exact hlt
    have hq4:(q:Int)<4:=by omega
    have HQ:=Lib.hid hql;have HD:=Lib.hid (Bzs (p:=fun x:Prc=> !x.live) hql);obtain⟨gl,d4⟩:=HD4.out _ HS2.out.ks;obtain⟨bl,z0,z1⟩:=HPL.out _ HS2.out.ks;have hcell:∃ u1,w2.cell? ⟨b4,q*2,none⟩=some (.bool (k.procs[q]'hql).live)∧w2.cell? ⟨b4,q*2+1,none⟩=some u1:=by
     have hn:=HS2.out.ks.cp.procs;rw[HA4.out] at hn;have hr:=Rd.of_own hn;obtain⟨b',o',e1,_,hc⟩:=hr.2 (by have:=HKO.out.l4;omega);obtain⟨rfl,rfl⟩:b4=b'∧0=o':=by injection e1 with e1;injection e1 with e1 e2;exact⟨e1,e2⟩
     obtain⟨g1,g2⟩:=Czp k.procs es HS2.out.ks.cp.ends.len q HQ.out (by have:=HS2.out.ks.cp.ends.len;have:=HQ.out;omega);have g1:=hc _ _ g1;have g2:=hc _ _ g2;rw[Nat.zero_add] at g1 g2;exact⟨_,g1,g2⟩
    obtain⟨u1,v0,v1⟩:=hcell;obtain⟨x,hx⟩:∃ x,x=(k.procs[q]'hql).live:=⟨_,rfl⟩;rw[←hx] at v0 HD;clear hx;cases x with
    | true=>
      have HG:Hid (Dz5 k=idxF (fun x:Prc=> !x.live) (k.procs.drop (q+1)) (q+1)):=by show _=_;rw[HE.out,HD.out];rfl
      go_wp2;go_round
      case rel=>exact⟨q+1,by omega,by go_num,HG⟩
      case measure=>simp[intOf];omega
    | false=>
      have HF:Hid (Dz5 k=(q:Int)):=by show _=_;rw[HE.out,HD.out];rfl
      rw[HF.out,if_neg (by omega),Int.toNat_natCast] at HV;go_upto_region 36 with fail
      have f0:w2.frozen? ⟨b4,q*2,none⟩=false:=by
       have hn:=HS2.out.ks.cp.procs;rw[HA4.out] at hn;exact hn.frozenAt _
      have f1:w2.frozen? ⟨b4,q*2+1,none⟩=false:=by
       have hn:=HS2.out.ks.cp.procs;rw[HA4.out] at hn;exact hn.frozenAt _
      have hR:=(KS.rdE (i:=0) HS2.out.ks hpl hp' HES.out).rd;rw[hel] at hR;refine Qzo w2 g b4 a.c4 be c p q (Azg k.procs[p].ends) _ _ w2 _ (Bz4 _) gl d4 bl z0 z1 hp hlt v0 v1 f0 f1 hR (Hzm _) ?_;clear gl d4 bl z0 z1 v0 v1 f0 f1 hR;intro listed W y166 y167 y168 y169 y170 y171 y172 y173 y174 y175 y176 y177 y178 y179 y180 y181 hall hJ;obtain⟨V,W1,hb1,hV,rfl⟩:=hJ.f16 (hall 16 (by decide));clear hJ hall;have hfin:=HS2.out.ks.prc (x:=⟨true,k.procs[p].ends⟩) hb1 HA4.out HQ.out (by rw[hel];exact hV) (by rw[hel];omega);have HS3:=Lib.hid (HS2.out.next hfin.1 ((Fr.low hb1 (Nat.le_of_lt HS2.out.ks.lt)).trans hfin.2));clear hfin hb1 hV HS2;go_upto_region 37 with fail
      refine(show ∀ W4:World,RbAt B w W4 g a { k with procs:=k.procs.set q ⟨true,k.procs[p].ends⟩ } ms (es.set q V) _→Code.wp _ _ _ _ W4 from ?_) _ (HS3.out);clear HS3;intro W4 hZ;have HS4:=Lib.hid hZ;clear hZ;obtain⟨r0,r1,r2,f0,f1,f2,rl⟩:=HS4.out.rs.a3;simp at r0 r1 r2;go_wp2;refine bodyPost_ret (v:= .agg #[.int .i64 0, .int .i64 q, .string ⟨#[]⟩]) (by simp[results,Tryz.results27,go_sem,r0,r1,r2]) rfl ?_;exact HS4.out.fin _ HV.out
   ·have HF:Hid (Dz5 k= -1):=by show _=_;rw[HE.out,List.drop_of_length_le (by have:=HKO.out.l4;omega)];rfl
    rw[HF.out,if_pos (by decide)] at HV;obtain⟨r0,r1,r2,f0,f1,f2,rl⟩:=HS2.out.rs.a3;simp at r0 r1 r2;go_wp2;refine bodyPost_ret (v:= .agg #[.int .i64 8, .int .i64 0, .string ⟨#[]⟩]) (by simp[results,Tryz.results27,go_sem,r0,r1,r2]) rfl ?_;exact HS2.out.fin _ HV.out
 have t10:(kd == 10)=false:=by rw[beq_eq_false_iff_ne];exact k10
 by_cases k11:kd=11
 ·subst k11
  have HV:Hid (byK k p ⟨11,(p:Int),xn,xm,nm,dt⟩=(Czx { k with procs:=k.procs.set p ⟨false,List.replicate 6 default⟩ },ansN 0)):=rfl;obtain⟨c0, -, -, -,cl⟩:=HS2.out.ac.a2;simp at c0;go_upto_region 40 with fail
  obtain⟨gl,d4⟩:=HD4.out _ HS2.out.ks;obtain⟨bl,z0,z1⟩:=HPL.out _ HS2.out.ks;have f0:w2.frozen? ⟨b4,p*2,none⟩=false:=by
   have hn:=HS2.out.ks.cp.procs;rw[HA4.out] at hn;exact hn.frozenAt _
  have f1:w2.frozen? ⟨b4,p*2+1,none⟩=false:=by
   have hn:=HS2.out.ks.cp.procs;rw[HA4.out] at hn;exact hn.frozenAt _
  refine Qzm w2 g b4 a.c4 be c p w2 _ (Bz4 _) gl d4 bl z0 z1 hp f0 f1 ?_;clear gl d4 bl z0 z1 f0 f1 c0 cl;intro listed W y187 y188 y189 y190 y191 y192 y193 y194 hall hJ;obtain⟨V,W1,hb1,hV,rfl⟩:=hJ.f8 (hall 8 (by decide));clear hJ hall;have hfin:=HS2.out.ks.prc (x:=⟨false,List.replicate 6 default⟩) hb1 HA4.out hpl hV (by decide);have HS3:=Lib.hid (HS2.out.next hfin.1 ((Fr.low hb1 (Nat.le_of_lt HS2.out.ks.lt)).trans hfin.2));clear hfin hb1 hV HS2;go_upto_region 41 with fail
  refine(show ∀ W4:World,RbAt B w W4 g a { k with procs:=k.procs.set p ⟨false,List.replicate 6 default⟩ } ms (es.set p V) _→Code.wp _ _ _ _ W4 from ?_) _ (HS3.out);clear HS3;intro W4 hZ;have HS4:=Lib.hid hZ;clear hZ;have HT:=Lib.hid (Fzd W4 HS4.out.ks HKO.out.l2 HKO.out.l3 (by simp only[List.length_set];exact HKO.out.l4) (fun x hx hk0=>Rz6 HKO.out x hx hk0));go_wp2_with fail;refine HT.out.mono ?_;rintro e w5 ⟨rfl,hK2,hF2⟩;have HS5:=Lib.hid (HS4.out.next hK2 hF2);clear HT hK2 hF2 HS4;obtain⟨r0,r1,r2,f0,f1,f2,rl⟩:=HS5.out.rs.a3;simp at r0 r1 r2;go_wp2;refine bodyPost_ret (v:= .agg #[.int .i64 0, .int .i64 0, .string ⟨#[]⟩]) (by simp[results,Tryz.results27,go_sem,r0,r1,r2]) rfl ?_;exact HS5.out.fin _ HV.out
 have t11:(kd == 11)=false:=by rw[beq_eq_false_iff_ne];exact k11
 have HK6:=Lib.hid (show kd=6∨kd=7∨kd=8 by omega);have hb:byK k p ⟨kd,(p:Int),xn,xm,nm,dt⟩=if xn<0∨6≤xn∨((k.procs.getD p default).ends.getD xn.toNat default).kind=0 then (k,ansE 6) else if kd=6 then (Czx (setEnd k p xn.toNat default),ansN 0)
   else if (kd=7∧((k.procs.getD p default).ends.getD xn.toNat default).kind=3)∨(kd=8∧((k.procs.getD p default).ends.getD xn.toNat default).kind=2) then (k,ansE 3) else if kd=7 then Bzu k p xn.toNat xm else Azh k p xn.toNat dt:=by
  unfold byK;simp only;rw[if_neg k5,if_neg k9,if_neg k10,if_neg k11]
 have HV:=Lib.hid hb;clear hb k5 k9 k10 k11 hlv5 h11;by_cases hx:xn<0∨5<xn
 ·have HV2:=Lib.hid (HV.out.trans (if_pos (by omega)))
  have hin:=Azp hx;have C3:Hid (∀ X:After w2,Calls Tryz.prog 21 #[.int .i64 xn, .int .i64 0, .int .i64 5] X.w' fun e w'=>e= .returned (.bool false)∧X.w'=w'):=fun X=>by rw[←hin];exact Azi _ _ _ _
  clear hx hin;obtain⟨c0, -,c2, -, -, -,cl⟩:=HS2.out.ac.a3;simp at c0 c2;go_wp2_with fail;refine Azb (by kernel_rfl) (by kernel_rfl) ?_
  repeat (go_big_quiet_step ((rename_i X;exact Calls.calm_same (C3.out X))))
  refine wpQuiet_nil ?_;rintro W3 ⟨⟨Wq,hbq⟩,hq⟩;replace hq:W3=Wq:=hq;subst hq;have HS3:=Lib.hid (HS2.out.below hbq);clear hbq;clear c0 c2 cl HS2 C3;obtain⟨r0,r1,r2,f0,f1,f2,rl⟩:=HS3.out.rs.a3;simp at r0 r1 r2;go_wp2;refine bodyPost_ret (v:= .agg #[.int .i64 6, .int .i64 0, .string ⟨#[]⟩]) (by simp[results,Tryz.results27,go_sem,r0,r1,r2]) rfl ?_;exact HS3.out.fin _ HV2.out
 obtain⟨i,rfl⟩:∃ i:Nat,xn=(i:Int):=⟨xn.toNat,by omega⟩;have hi6:i<6:=by omega
 have hi6':(i:Int)<6:=by omega
 have HI:Hid (i<k.procs[p].ends.length):=by show _<_;omega
 rw[Int.toNat_natCast] at HV;have hin:inB (i:Int) 0 5=true:=Azl (by omega) (by omega);have C3:Hid (∀ X:After w2,Calls Tryz.prog 21 #[.int .i64 (i:Int), .int .i64 0, .int .i64 5] X.w' fun e w'=>e= .returned (.bool true)∧X.w'=w'):=fun X=>by rw[←hin];exact Azi _ _ _ _
 clear hx hin;have HEQ:Hid ((k.procs.getD p default).ends.getD i default=k.procs[p].ends[i]'HI.out):=by show _=_;rw[HUN.out,Az3 HI.out]
 obtain⟨x,hx⟩:∃ x,x=(k.procs.getD p default).ends.getD i default:=⟨_,rfl⟩;have HXE:Hid (k.procs[p].ends[i]'HI.out=x):=by show _=_;rw[hx,HEQ.out]
 have HXD:=Lib.hid hx;rw[←hx] at HV;clear hx;obtain⟨c0, -,c2, -, -, -,cl⟩:=HS2.out.ac.a3;simp at c0 c2;obtain⟨gl,d4⟩:=HD4.out _ HS2.out.ks;obtain⟨bl,z0,z1⟩:=HPL.out _ HS2.out.ks;obtain⟨el,y0,y1,y2⟩:=HS2.out.ks.opnB hpl hp' HES.out HI.out;rw[HXE.out] at y0;clear y1 y2;by_cases hk0:x.kind=0
 ·have HV2:=Lib.hid (HV.out.trans (if_pos (.inr (.inr hk0))))
  have q0:(x.kind == 0)=true:=by rw[hk0];rfl
  clear hk0;go_wp2_with fail;refine Azb (by kernel_rfl) (by kernel_rfl) ?_
  repeat (go_big_quiet_step ((rename_i X;exact Calls.calm_same (C3.out X))))
  refine wpQuiet_nil ?_;rintro W3 ⟨⟨Wq,hbq⟩,hq⟩;replace hq:W3=Wq:=hq;subst hq;have HS3:=Lib.hid (HS2.out.below hbq);clear hbq;clear c0 c2 cl HS2 C3 gl d4 bl z0 z1 el y0;obtain⟨r0,r1,r2,f0,f1,f2,rl⟩:=HS3.out.rs.a3;simp at r0 r1 r2;go_wp2;refine bodyPost_ret (v:= .agg #[.int .i64 6, .int .i64 0, .string ⟨#[]⟩]) (by simp[results,Tryz.results27,go_sem,r0,r1,r2]) rfl ?_;exact HS3.out.fin _ HV2.out
 have q0:(x.kind == 0)=false:=by rw[beq_eq_false_iff_ne];exact hk0
 rw[if_neg (by rintro (q|q|q);omega;omega;exact hk0 q)] at HV;have HK0:=Lib.hid hk0;clear hk0;go_wp2_with fail;refine Azb (by kernel_rfl) (by kernel_rfl) ?_
 repeat (go_big_quiet_step ((rename_i X;exact Calls.calm_same (C3.out X))))
 refine wpQuiet_nil ?_;rintro W3 ⟨⟨Wq,hbq⟩,hq⟩;replace hq:W3=Wq:=hq;subst hq;have HS3:=Lib.hid (HS2.out.below hbq);clear hbq;clear c0 c2 cl HS2 C3 gl d4 bl z0 z1 el y0 q0;by_cases k6:kd=6
 ·subst k6
  rw[if_pos rfl] at HV;obtain⟨c0, -,c2, -, -, -,cl⟩:=HS3.out.ac.a3;simp at c0 c2;go_upto_region 47 with fail
  refine(show ∀ W4:World,RbAt B w W4 g a k ms es _→Code.wp _ _ _ _ W4 from ?_) _ (HS3.out);clear c0 c2 cl HS3;intro W4 hZ;have HS4:=Lib.hid hZ;clear hZ;obtain⟨gl,d4⟩:=HD4.out _ HS4.out.ks;obtain⟨bl,z0,z1⟩:=HPL.out _ HS4.out.ks;obtain⟨-, -,c2, -, -, -,cl⟩:=HS4.out.ac.a3;simp at c2;obtain⟨el,y0,y1,y2⟩:=HS4.out.ks.opnB hpl hp' HES.out HI.out;have g0:=HS4.out.ks.rdF hpl hp' HES.out (i*3);have g1:=HS4.out.ks.rdF hpl hp' HES.out (i*3+1);have g2:=HS4.out.ks.rdF hpl hp' HES.out (i*3+2);go_still_tail 11,(by kernel_rfl);change wpList _ _ _ _ _ W4.drew;have HS5:=Lib.hid (HS4.out.below (Below.drewN' (Below.refl _ W4) 1));have HN:=Lib.hid (HS5.out.ks.endAll hpl hp' HES.out HI.out (default:Opn));go_upto_region 48 with fail
  refine(show ∀ W6:World,RbAt B w W6 g a (setEnd k p i default) ms es _→Code.wp _ _ _ _ W6 from ?_) _ (HS5.out.next HN.out.1 HN.out.2);clear HN HS5 HS4 el y0 y1 y2 g0 g1 g2 c2 cl gl d4 bl z0 z1;intro W6 hZ;have HS6:=Lib.hid hZ;clear hZ;have HT:=Lib.hid (Fzd W6 HS6.out.ks HKO.out.l2 HKO.out.l3 (by rw[Czs hpl];simp only[List.length_set];exact HKO.out.l4) (fun x hx hk0=>Rz6 HKO.out x hx hk0));go_wp2_with fail;refine HT.out.mono ?_;rintro e w7 ⟨rfl,hK2,hF2⟩;have HS7:=Lib.hid (HS6.out.next hK2 hF2);clear HT hK2 hF2 HS6;obtain⟨r0,r1,r2,f0,f1,f2,rl⟩:=HS7.out.rs.a3;simp at r0 r1 r2;go_wp2;refine bodyPost_ret (v:= .agg #[.int .i64 0, .int .i64 0, .string ⟨#[]⟩]) (by simp[results,Tryz.results27,go_sem,r0,r1,r2]) rfl ?_;exact HS7.out.fin _ HV.out
 rw[if_neg k6] at HV;have t6:(kd == 6)=false:=by rw[beq_eq_false_iff_ne];exact k6
 by_cases k7:kd=7
 ·subst k7
  have HV2:Hid (byK k p ⟨7,(p:Int),(i:Int),xm,nm,dt⟩=Fzx k p i xm):=by
   show _=_;rw[HV.out];unfold Fzx;rw[←HXD.out];by_cases h3:x.kind=3
   ·rw[if_pos (.inl ⟨rfl,h3⟩),if_pos h3]
   ·rw[if_neg (by rintro (⟨_,q⟩|⟨q,_⟩);exact h3 q;omega),if_pos rfl,if_neg h3]
  obtain⟨c0, -,c2,c3, -, -, -, -,cl⟩:=HS3.out.ac.a4;simp at c0 c2 c3;have HC:=Lib.hid (Mz9 HR xm W3 HS3.out.ks HKO.out (HTB.out.fr HS3.out.fr hgB) hp hi6 (by rw[←HXD.out];exact HK0.out));obtain⟨r,hr⟩:∃ r,r=Fzx k p i xm:=⟨_,rfl⟩;rw[←hr] at HC HV2;clear hr;go_wp2_with fail;refine HC.out.mono ?_;rintro e w4 ⟨rfl,hF,a',hK⟩;have HS4:=Lib.hid (HS3.out.next hK hF);clear HC hK hF HS3;clear c0 c2 c3 cl;obtain⟨r1,r2⟩:=r;obtain⟨rc,rn,rd⟩:=r2;obtain⟨r0,r1,r2,f0,f1,f2,rl⟩:=HS4.out.rs.a3;simp at r0 r1 r2;go_wp2;refine bodyPost_ret (v:= .agg #[.int .i64 rc, .int .i64 rn, .string rd]) (by simp[results,Tryz.results27,go_sem,r0,r1,r2]) rfl ?_;exact HS4.out.fin _ HV2.out
 have k8:kd=8:=by have:=HK6.out;omega
 subst k8;have HV2:Hid (byK k p ⟨8,(p:Int),(i:Int),xm,nm,dt⟩=Cz3 k p i dt):=by
  show _=_;rw[HV.out];unfold Cz3;rw[←HXD.out];by_cases h3:x.kind=2
  ·rw[if_pos (.inr ⟨rfl,h3⟩),if_pos h3]
  ·rw[if_neg (by rintro (⟨q,_⟩|⟨_,q⟩);omega;exact h3 q),if_neg (by omega),if_neg h3]
 obtain⟨c0, -,c2, -, -,c5, -, -, -, -, -, -, -, -, -, -, -, -, -, -, -, -,cl⟩:=HS3.out.ac.a11;simp at c0 c2 c5;have HC:=Lib.hid (Iz6 HR dt W3 HS3.out.ks HKO.out (HTB.out.fr HS3.out.fr hgB) hgB HDT.out hp hi6 (by rw[←HXD.out];exact HK0.out));obtain⟨r,hr⟩:∃ r,r=Cz3 k p i dt:=⟨_,rfl⟩;rw[←hr] at HC HV2;clear hr;go_wp2_with fail;refine HC.out.mono ?_;rintro e w4 ⟨rfl,hF,a',hK⟩;have HS4:=Lib.hid (HS3.out.next hK hF);clear HC hK hF HS3;clear c0 c2 c5 cl;obtain⟨r1,r2⟩:=r;obtain⟨rc,rn,rd⟩:=r2;obtain⟨r0,r1,r2,f0,f1,f2,rl⟩:=HS4.out.rs.a3;simp at r0 r1 r2;go_wp2;refine bodyPost_ret (v:= .agg #[.int .i64 rc, .int .i64 rn, .string rd]) (by simp[results,Tryz.results27,go_sem,r0,r1,r2]) rfl ?_;exact HS4.out.fin _ HV2.out
theorem Qzp (HR:RunC 102) (x:Akt) (w:World) (h:KS B w g a k ms es) (hk:KOk k) (ht:Tab w) (hgB:0<B) (hn:x.name.size≤maxLen) (hd:x.data.size≤maxLen) (h5:5≤x.kind) (h11:x.kind≤11):
  Calls Tryz.prog 27 #[.pointer (some ⟨g,0,none⟩), .agg x.cells] w (Cz1 B w g ms (byR k x)):=by
 obtain⟨kd,xp,xn,xm,nm,dt⟩:=x;simp only at hn hd h5 h11;show Calls _ _ #[_, .agg #[.int .i64 kd, .int .i64 xp, .int .i64 xn, .int .i64 xm, .string nm, .string dt]] _ _;unfold byR;simp only;by_cases hx:xp<0∨3<xp
 ·rw[if_neg (by omega)]
  exact Qzq kd xp xn xm nm dt w h hx
 obtain⟨p,rfl⟩:∃ p:Nat,xp=(p:Int):=⟨xp.toNat,by omega⟩;rw[Int.toNat_natCast];cases hlv:(k.procs.getD p default).live with
 | false=>
   rw[if_neg (by rintro⟨_,_,q⟩;cases q)];exact Ozr kd xn xm nm dt w h hk (by omega) hlv
 | true=>
   rw[if_pos ⟨by omega,by omega,rfl⟩];exact Ozs kd xn xm nm dt w h hk (by omega) hlv h5 h11 HR ht hgB hn hd
end
end Go.Proofs.YtdjamdbamkhblacGreatDoor
