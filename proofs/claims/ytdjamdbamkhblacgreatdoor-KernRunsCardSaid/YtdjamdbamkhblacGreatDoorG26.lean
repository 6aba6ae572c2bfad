/- The walk of the reference's writtenAt: refusals, and what a writing end takes. Condition: the listed table. By an AI agent (xwritat.py). The walk of the reference's writtenAt at a device. By an AI agent (xwritatn.py). -/
import Derived.Test.YtdjamdbamkhblacGreatDoorG25
set_option maxHeartbeats 8000000
set_option maxRecDepth 100000
namespace Go.Proofs.YtdjamdbamkhblacGreatDoor
open Go.RowKit
set_option linter.unusedVariables false
set_option linter.unusedSimpArgs false
attribute [local go_sem] After.cell
section
variable {B g:Nat} {a:KA} {k:Krn} {ms:List (Value × Value)} {es:List Value}
def Cz3 (k:Krn) (p i:Nat) (s:ByteArray):Krn × Ans:=if ((k.procs.getD p default).ends.getD i default).kind=2 then (k,ansE 3) else Azh k p i s
theorem Dz4 {p i:Nat} (s:ByteArray) (w:World) (h:KS B w g a k ms es) (hk:KOk k) (hp:p<4) (hi:i<6)
  (hcs:((k.procs.getD p default).ends.getD i default).kind=2∨(s.size<1∨100<s.size)∨((k.procs.getD p default).ends.getD i default).kind=3) (h0:((k.procs.getD p default).ends.getD i default).kind≠0) (hsm:s.size≤maxLen):
  Calls Tryz.prog 68 #[.pointer (some ⟨g,0,none⟩), .int .i64 (p:Int), .int .i64 (i:Int), .string s] w (Azd B w g ms es (Cz3 k p i s)):=by
 unfold maxLen at hsm;have hpl:p<k.procs.length:=by rw[hk.l4];exact hp
 have e6:k.procs[p].ends.length=6:=by have:=Bzb hk hp;rwa [Az3 hpl] at this
 have hil:i<k.procs[p].ends.length:=by omega
 obtain⟨b4,be,c,hp',ha4,_,hb4,he,hbe,hbel,_,y0,y1⟩:=h.prcAt hpl (by omega);have HO:Hid (∀ W:World,Below w.heap.size w W→be<W.heap.size∧W.cell? ⟨be,i*3,none⟩=some (.int .i64 k.procs[p].ends[i].kind)∧W.cell? ⟨be,i*3+1,none⟩=some (.int .i64 k.procs[p].ends[i].node)∧W.cell? ⟨be,i*3+2,none⟩=some (.int .i64 k.procs[p].ends[i].pos)):=fun W hW=>(h.below hW).opn hpl hp' he hil
 have HEO:Hid (endOk k k.procs[p].ends[i]=true):=by
  have:=Cz6 hk (p:=p) (i:=i) hp;rw[Az3 hpl,Az3 hil] at this;exact this
 have HUN:Hid ((k.procs.getD p default).ends.getD i default=k.procs[p].ends[i]):=by
  show _=_;rw[Az3 hpl,Az3 hil]
 rw[HUN.out] at h0 hcs;obtain⟨x,hx⟩:∃ x,x=k.procs[p].ends[i]:=⟨_,rfl⟩;rw[←hx] at HO HEO HUN h0 hcs;have HCS:=Lib.hid hcs;clear hcs;have hb2:=(Az6 w (.cells #[.int .i64 0, .int .i64 0, .string ⟨#[]⟩] 36)).alloc (Az6 w _).size (.cells #[.int .i64 x.kind, .int .i64 x.node, .int .i64 x.pos] 54);have HN:Hid (Blk ((w.alloc (.cells #[.int .i64 0, .int .i64 0, .string ⟨#[]⟩] 36)).alloc (.cells #[.int .i64 x.kind, .int .i64 x.node, .int .i64 x.pos] 54)) (w.heap.size+1) 54 #[.int .i64 x.kind, .int .i64 x.node, .int .i64 x.pos]):=Blk.new' (by simp);have HA:=Lib.hid ((Blk.new w 36 #[.int .i64 0, .int .i64 0, .string ⟨#[]⟩]).alloc (.cells #[.int .i64 x.kind, .int .i64 x.node, .int .i64 x.pos] 54));have HB:=Lib.hid hb2;have H0:=Lib.hid h;have HK:=Lib.hid hk;have HE:=Lib.hid (show p<k.procs.length∧x=k.procs[p].ends[i] from ⟨hpl,hx⟩);have HES:=Lib.hid he;have HP:=Lib.hid (show p<k.procs.length∧p<es.length∧i<k.procs[p].ends.length from ⟨hpl,hp',hil⟩);have HA4:=Lib.hid ha4;obtain⟨c0,c1,c2,c3,c4⟩:=h.c5;rw[hk.l4,ha4] at c4;rw[e6] at y1;obtain⟨z0,z1,z2,z3⟩:=HO.out w (Below.refl _ _);have gl:=h.blk.lt;have hpi:(p:Int)<4:=by omega
 have hii:(i:Int)<6:=by omega
 clear h hk hx hb2 he ha4 e6;go_enter Tryz.func68,Tryz.ntmps68;go_upto_region 2 with fail
 generalize (w.alloc (.cells #[.int .i64 0, .int .i64 0, .string ⟨#[]⟩] 36)).alloc (.cells #[.int .i64 x.kind, .int .i64 x.node, .int .i64 x.pos] 54)=W2 at*;clear c0 c1 c2 c3 c4 z0 z1 z2 z3 gl y0 y1 hb4 hbe hbel;have HF:Hid (Fr B w W2):=Fr.low HB.out (Nat.le_of_lt H0.out.lt);have HLT:Hid (B≤w.heap.size):=Nat.le_of_lt H0.out.lt;obtain⟨r0,r1,r2⟩:W2.cell? ⟨w.heap.size,0,none⟩=some (.int .i64 0)∧W2.cell? ⟨w.heap.size,1,none⟩=some (.int .i64 0)∧W2.cell? ⟨w.heap.size,2,none⟩=some (.string ⟨#[]⟩):=⟨HA.out.cell 0,HA.out.cell 1,HA.out.cell 2⟩;obtain⟨-, -, -,rf0,rf1,rf2,rl⟩:=HA.out.a3;obtain⟨n0,n1,n2⟩:W2.cell? ⟨w.heap.size+1,0,none⟩=some (.int .i64 x.kind)∧W2.cell? ⟨w.heap.size+1,1,none⟩=some (.int .i64 x.node)∧W2.cell? ⟨w.heap.size+1,2,none⟩=some (.int .i64 x.pos):=⟨HN.out.cell 0,HN.out.cell 1,HN.out.cell 2⟩;have nl:=HN.out.lt;have HK2:=Lib.hid (H0.out.below HB.out);by_cases h3:x.kind=2
 ·have HV:Hid (Cz3 k p i s=(k,ansE 3)):=by
   show _=_;unfold Cz3;rw[HUN.out,if_pos h3]
  have q3:(x.kind == 2)=true:=by rw[h3];rfl
  have HKF:=Lib.hid (HK2.out.ans3 HA.out HLT.out (.int .i64 3) (.int .i64 0) (.string ⟨#[]⟩));clear h3;go_wp2;refine bodyPost_ret (v:= .agg #[.int .i64 3, .int .i64 0, .string ⟨#[]⟩]) (by simp[results,Tryz.results68,go_sem,r0,r1,r2]) rfl ?_;unfold Azd;rw[HV.out];exact⟨rfl,HF.out.ans3 (Nat.le_refl _) HLT.out _ _ _,_,HKF.out.1⟩
 have HV:Hid (Cz3 k p i s=Azh k p i s):=by
  show _=_;unfold Cz3;rw[HUN.out,if_neg h3]
 have q3:(x.kind == 2)=false:=by rw[beq_eq_false_iff_ne];exact h3
 by_cases hm:s.size<1∨100<s.size
 ·have HV2:Hid (Azh k p i s=(k,ansE 2)):=by
   show _=_;unfold Azh;simp only;rw[if_pos (by
    rcases hm with h|h
    ·left
     unfold empS;have:s.size=0:=by omega
     simp[this]
    ·exact .inr h)]
  have HIN:=Lib.hid (Azi (s.size:Int) 1 100 W2);rw[Azp (by omega)] at HIN;have HKF:=Lib.hid (HK2.out.ans3 HA.out HLT.out (.int .i64 2) (.int .i64 0) (.string ⟨#[]⟩));clear hm h3;go_wp2_with fail;refine HIN.out.mono ?_;rintro e w1 ⟨rfl,rfl⟩;go_wp2;refine bodyPost_ret (v:= .agg #[.int .i64 2, .int .i64 0, .string ⟨#[]⟩]) (by simp[results,Tryz.results68,go_sem,r0,r1,r2]) rfl ?_;unfold Azd;rw[HV.out,HV2.out];exact⟨rfl,HF.out.ans3 (Nat.le_refl _) HLT.out _ _ _,_,HKF.out.1⟩
 have HM:=Lib.hid hm;have HIN:=Lib.hid (Azi (s.size:Int) 1 100 W2);rw[Azl (by omega) (by omega)] at HIN;by_cases hk2:x.kind=3
 ·have q2:(x.kind == 3)=true:=by rw[hk2];rfl
  obtain⟨no0,no6,_⟩:=Fza HEO.out (.inr hk2);obtain⟨pi,hpi⟩:∃ pi:Nat,x.node=(pi:Int):=⟨x.node.toNat,by omega⟩;have l3:=HK.out.l3;have hpil:pi<k.pipes.length:=by omega
  obtain⟨t,htt⟩:∃ t,t=k.pipes[pi]:=⟨_,rfl⟩;have htl:t.size≤20:=by
   have:=HK.out.pipes pi hpil;rw[←htt] at this;unfold Azu at this;simp at this;omega
  have HRK:Hid (Azh k p i s=if hasE k.procs 2 (pi:Int)=false then (k,ansE 12) else if t.size=20 then (k,ansE 13) else
    ({ k with pipes:=k.pipes.set pi ⟨(t.data.toList++s.data.toList.take (min (20 - t.size) s.size)).toArray⟩ },ansN (min (20 - t.size) s.size))):=by
   show _=_;unfold Azh;simp only;rw[HUN.out,if_neg (fun h=>by
    rcases h with h|h
    ·unfold empS at h
     simp only[beq_iff_eq] at h;omega
    ·omega),if_pos hk2]
   have:k.pipes.getD x.node.toNat noS=t:=by
    rw[hpi,Int.toNat_natCast,List.getD_eq_getElem?_getD,List.getElem?_eq_getElem hpil,htt];rfl
   rw[this,hpi,Int.toNat_natCast]
  obtain⟨b3,ha3,_,hb3⟩:=Azf HK2.out.cp.pipes (by omega);have HA3:=Lib.hid ha3;have HPI:=Lib.hid (show x.node=(pi:Int)∧pi<k.pipes.length from ⟨hpi,hpil⟩);have HL3:=Lib.hid l3;have HCELL:Hid (∀ W:World,KS B W g a k ms es→W.cell? ⟨b3,pi,none⟩=some (.string t)∧b3<W.heap.size∧W.frozen? ⟨b3,pi,none⟩=false):=fun W hK=>by
   obtain⟨b,o,hb,hlt,hc⟩:=hK.krn.pipes (by omega);rw[ha3] at hb;cases hb
   have e:=hc pi hpil;rw[Nat.zero_add, ←htt] at e;have hf:=hK.cp.pipes;rw[ha3] at hf;exact⟨e,hlt,hf.frozenAt pi⟩
  have pi6:(pi:Int)<6:=by omega
  have hs0:1≤s.size:=by omega
  have hs100:s.size≤100:=by omega
  rw[hpi] at n1;obtain⟨y0,y1,y2⟩:=HCELL.out _ HK2.out;obtain⟨c0,c1,c2,c3,c4⟩:=HK2.out.c5;rw[l3,ha3] at c3;have gl:=HK2.out.blk.lt;clear hk2 hm h3 hpi l3 ha3 htt hb3 no0 no6;go_wp2_with fail;refine HIN.out.mono ?_;rintro e w1 ⟨rfl,rfl⟩;go_wp2_with fail;go_quiet (fail);have hWq:=Below.drewN' (Below.refl W2.heap.size W2) nq;have HAq:=Lib.hid (HA.out.drewN nq);have HNq:=Lib.hid (HN.out.drewN nq);have HKq:=Lib.hid (HK2.out.below hWq);have HFq:=Lib.hid (HF.out.drewN nq);clear hWq y0 y1 y2 c0 c1 c2 c3 c4 gl r0 r1 r2 rf0 rf1 rf2 rl n0 n1 n2 nl;generalize W2.drewN nq=W3 at*;obtain⟨n0,n1,n2⟩:W3.cell? ⟨w.heap.size+1,0,none⟩=some (.int .i64 x.kind)∧W3.cell? ⟨w.heap.size+1,1,none⟩=some (.int .i64 (pi:Int))∧W3.cell? ⟨w.heap.size+1,2,none⟩=some (.int .i64 x.pos):=⟨HNq.out.cell 0,by rw[←HPI.out.1];exact HNq.out.cell 1,HNq.out.cell 2⟩;have nl:=HNq.out.lt;obtain⟨c0,c1,c2,c3,c4⟩:=HKq.out.c5;have gl:=HKq.out.blk.lt;have HH:Hid (∀ X:After W3,Calls Tryz.prog 61 #[.agg #[.slice a.a0 k.mods.length a.c0, .slice a.a1 k.mem.length a.c1, .slice a.a2 k.nodes.length a.c2, .slice a.a3 k.pipes.length a.c3, .slice a.a4 k.procs.length a.c4], .int .i64 2, .int .i64 (pi:Int)] X.w' fun e w'=>e= .returned (.bool (hasE k.procs 2 (pi:Int)))∧Below X.w'.heap.size X.w' w'):=
   fun X=>Cz4 _ _ _ _ _ _ _ _ _ _ (HKq.out.below X.h).krn.procs (by rw[HK.out.l4];unfold maxLen;omega)
  cases hh:hasE k.procs 2 (pi:Int) with
  | false=>
    rw[hh,if_pos rfl] at HRK;simp only[hh] at HH;clear hh;go_wp2;refine Azb (by kernel_rfl) (by kernel_rfl) ?_
    repeat (go_big_quiet_step ((rename_i X;exact Calls.calm (HH.out X))))
    refine wpQuiet_nil ?_;rintro w1 ⟨⟨_,hb1⟩,rfl⟩;rename_i w1;have HA4:=Lib.hid (HAq.out.below hb1 HAq.out.lt);have HN4:=Lib.hid (HNq.out.below hb1 HNq.out.lt);have HK4:=Lib.hid (HKq.out.below hb1);have HF4:=Lib.hid (HFq.out.trans (Fr.low hb1 (Nat.le_of_lt HKq.out.lt)));have HKF:=Lib.hid (HK4.out.ans3 HA4.out HLT.out (.int .i64 12) (.int .i64 0) (.string ⟨#[]⟩));clear hb1 c0 c1 c2 c3 c4 gl n0 n1 n2 nl;obtain⟨r0,r1,r2⟩:w1.cell? ⟨w.heap.size,0,none⟩=some (.int .i64 0)∧w1.cell? ⟨w.heap.size,1,none⟩=some (.int .i64 0)∧w1.cell? ⟨w.heap.size,2,none⟩=some (.string ⟨#[]⟩):=⟨HA4.out.cell 0,HA4.out.cell 1,HA4.out.cell 2⟩;obtain⟨-, -, -,rf0,rf1,rf2,rl⟩:=HA4.out.a3;go_wp2;refine bodyPost_ret (v:= .agg #[.int .i64 12, .int .i64 0, .string ⟨#[]⟩]) (by simp[results,Tryz.results68,go_sem,r0,r1,r2]) rfl ?_;unfold Azd;rw[HV.out,HRK.out];exact⟨rfl,HF4.out.ans3 (Nat.le_refl _) HLT.out _ _ _,_,HKF.out.1⟩
  | true=>
    rw[hh,if_neg (by decide)] at HRK;simp only[hh] at HH;clear hh;by_cases h20:t.size=20
    ·rw[if_pos h20] at HRK
     have rr0:((20:Int) - (t.size:Int) == 0)=true:=by rw[beq_iff_eq];omega
     have rr1:(20:Int) - (t.size:Int)=0:=by omega
     clear h20;go_wp2;refine Azb (by kernel_rfl) (by kernel_rfl) ?_
     repeat (go_big_quiet_step ((rename_i X;exact Calls.calm (HH.out X))))
     refine wpQuiet_nil ?_;rintro w1 ⟨⟨_,hb1⟩,rfl⟩;rename_i w1;have HA4:=Lib.hid (HAq.out.below hb1 HAq.out.lt);have HN4:=Lib.hid (HNq.out.below hb1 HNq.out.lt);have HK4:=Lib.hid (HKq.out.below hb1);have HF4:=Lib.hid (HFq.out.trans (Fr.low hb1 (Nat.le_of_lt HKq.out.lt)));have HKF:=Lib.hid (HK4.out.ans3 HA4.out HLT.out (.int .i64 13) (.int .i64 0) (.string ⟨#[]⟩));clear hb1 c0 c1 c2 c3 c4 gl n0 n1 n2 nl;obtain⟨r0,r1,r2⟩:w1.cell? ⟨w.heap.size,0,none⟩=some (.int .i64 0)∧w1.cell? ⟨w.heap.size,1,none⟩=some (.int .i64 0)∧w1.cell? ⟨w.heap.size,2,none⟩=some (.string ⟨#[]⟩):=⟨HA4.out.cell 0,HA4.out.cell 1,HA4.out.cell 2⟩;obtain⟨-, -, -,rf0,rf1,rf2,rl⟩:=HA4.out.a3;go_wp2;refine bodyPost_ret (v:= .agg #[.int .i64 13, .int .i64 0, .string ⟨#[]⟩]) (by simp[results,Tryz.results68,go_sem,r0,r1,r2]) rfl ?_;unfold Azd;rw[HV.out,HRK.out];exact⟨rfl,HF4.out.ans3 (Nat.le_refl _) HLT.out _ _ _,_,HKF.out.1⟩
    ·rw[if_neg h20] at HRK
     obtain⟨rm,hrm⟩:∃ rm:Nat,(20:Int) - (t.size:Int)=(rm:Int):=⟨20 - t.size,by omega⟩;have hrm1:1≤rm:=by omega
     have hrm2:rm≤20:=by omega
     have hrm3:20 - t.size=rm:=by omega
     rw[hrm3] at HRK;have rr0:((rm:Int) == 0)=false:=by rw[beq_eq_false_iff_ne];omega
     rw[hrm];have HRM:=Lib.hid hrm;clear h20 hrm hrm3;go_wp2;refine Azb (by kernel_rfl) (by kernel_rfl) ?_
     repeat (go_big_quiet_step ((rename_i X;exact Calls.calm (HH.out X))))
     refine wpQuiet_nil ?_;rintro w1 ⟨⟨_,hb1⟩,rfl⟩;rename_i w1;have HA4:=Lib.hid (HAq.out.below hb1 HAq.out.lt);have HN4:=Lib.hid (HNq.out.below hb1 HNq.out.lt);have HK4:=Lib.hid (HKq.out.below hb1);have HF4:=Lib.hid (HFq.out.trans (Fr.low hb1 (Nat.le_of_lt HKq.out.lt)));clear hb1 HH c0 c1 c2 c3 c4 gl n0 n1 n2 nl;obtain⟨y0,y1,y2⟩:=HCELL.out w1 HK4.out;obtain⟨c0,c1,c2,c3,c4⟩:=HK4.out.c5;rw[HL3.out,HA3.out] at c3;have gl:=HK4.out.blk.lt;obtain⟨n0,n1,n2⟩:w1.cell? ⟨w.heap.size+1,0,none⟩=some (.int .i64 x.kind)∧w1.cell? ⟨w.heap.size+1,1,none⟩=some (.int .i64 (pi:Int))∧w1.cell? ⟨w.heap.size+1,2,none⟩=some (.int .i64 x.pos):=⟨HN4.out.cell 0,by rw[←HPI.out.1];exact HN4.out.cell 1,HN4.out.cell 2⟩;have nl:=HN4.out.lt;by_cases hc:rm<s.size
     ·have hc1:(rm:Int)<(s.size:Int):=by omega
      have hc2:(rm:Int)≤(s.size:Int):=by omega
      have HR2:Hid (Azh k p i s=({ k with pipes:=k.pipes.set pi (t++cutS s 0 rm) },ansN (cutS s 0 rm).size)):=by
       show _=_;rw[HRK.out,show min rm s.size=rm by omega,Hzi,Bz1 _ _ _ (by omega),Nat.sub_zero]
      have hds:(cutS s 0 rm).size≤100:=by rw[Bz1 _ _ _ (by omega)];omega
      clear HRK hc;go_upto_region 14 with fail
      simp only[Azz];obtain⟨d,hd⟩:∃ d,d=cutS s 0 rm:=⟨_,rfl⟩;rw[←hd] at HR2 hds ⊢;clear hd;have hcat:¬ (9223372036854775807<t.size+d.size):=by omega
      go_still_tail 16,(by kernel_rfl);change wpList _ _ _ _ _ w1.drew;have HFIN:=Lib.hid ((HK4.out.below (Below.drewN' (Below.refl _ w1) 1)).pipeCell (i:=pi) HA3.out (t++d));have HA5:=Lib.hid (HFIN.out.2.blk (HA4.out.drewN 1) (by decide));have HF5:=Lib.hid ((Fr.drewN HF4.out 1).trans HFIN.out.2);go_upto_region 15 with fail
      refine(show ∀ W7:World,KS B W7 g a { k with pipes:=k.pipes.set pi (t++d) } ms es→Blk W7 w.heap.size 36 #[.int .i64 0, .int .i64 0, .string ⟨#[]⟩]→Fr B w W7→Code.wp _ _ _ _ W7 from ?_) _ HFIN.out.1 HA5.out HF5.out;clear HFIN HA5 HF5 HK4 HA4 HN4 HF4 HKq HAq HNq HFq c0 c1 c2 c3 c4 gl n0 n1 n2 nl y0 y1 y2;intro W7 hK7 hA7 hF7;have HK7:=Lib.hid hK7;have HA7:=Lib.hid hA7;have HF7:=Lib.hid hF7;have HKF:=Lib.hid (HK7.out.ans3 HA7.out HLT.out (.int .i64 0) (.int .i64 (d.size:Int)) (.string ⟨#[]⟩));clear hK7 hA7 hF7;obtain⟨r0,r1,r2⟩:W7.cell? ⟨w.heap.size,0,none⟩=some (.int .i64 0)∧W7.cell? ⟨w.heap.size,1,none⟩=some (.int .i64 0)∧W7.cell? ⟨w.heap.size,2,none⟩=some (.string ⟨#[]⟩):=⟨HA7.out.cell 0,HA7.out.cell 1,HA7.out.cell 2⟩;obtain⟨-, -, -,rf0,rf1,rf2,rl⟩:=HA7.out.a3;go_wp2;refine bodyPost_ret (v:= .agg #[.int .i64 0, .int .i64 (d.size:Int), .string ⟨#[]⟩]) (by simp[results,Tryz.results68,go_sem,r0,r1,r2]) rfl ?_;unfold Azd;rw[HV.out,HR2.out];exact⟨rfl,HF7.out.ans3 (Nat.le_refl _) HLT.out _ _ _,_,HKF.out.1⟩
     ·have hc1:¬ (rm:Int)<(s.size:Int):=by omega
      have HR2:Hid (Azh k p i s=({ k with pipes:=k.pipes.set pi (t++s) },ansN s.size)):=by
       show _=_;rw[HRK.out,show min rm s.size=s.size by omega, ←Hzi,Iz3 s _ (Nat.le_refl _)]
      have hds:s.size≤100:=by omega
      clear HRK hc;go_upto_region 14 with fail
      obtain⟨d,rfl⟩:∃ d,d=s:=⟨_,rfl⟩;have hcat:¬ (9223372036854775807<t.size+d.size):=by omega
      go_still_tail 16,(by kernel_rfl);change wpList _ _ _ _ _ w1.drew;have HFIN:=Lib.hid ((HK4.out.below (Below.drewN' (Below.refl _ w1) 1)).pipeCell (i:=pi) HA3.out (t++d));have HA5:=Lib.hid (HFIN.out.2.blk (HA4.out.drewN 1) (by decide));have HF5:=Lib.hid ((Fr.drewN HF4.out 1).trans HFIN.out.2);go_upto_region 15 with fail
      refine(show ∀ W7:World,KS B W7 g a { k with pipes:=k.pipes.set pi (t++d) } ms es→Blk W7 w.heap.size 36 #[.int .i64 0, .int .i64 0, .string ⟨#[]⟩]→Fr B w W7→Code.wp _ _ _ _ W7 from ?_) _ HFIN.out.1 HA5.out HF5.out;clear HFIN HA5 HF5 HK4 HA4 HN4 HF4 HKq HAq HNq HFq c0 c1 c2 c3 c4 gl n0 n1 n2 nl y0 y1 y2;intro W7 hK7 hA7 hF7;have HK7:=Lib.hid hK7;have HA7:=Lib.hid hA7;have HF7:=Lib.hid hF7;have HKF:=Lib.hid (HK7.out.ans3 HA7.out HLT.out (.int .i64 0) (.int .i64 (d.size:Int)) (.string ⟨#[]⟩));clear hK7 hA7 hF7;obtain⟨r0,r1,r2⟩:W7.cell? ⟨w.heap.size,0,none⟩=some (.int .i64 0)∧W7.cell? ⟨w.heap.size,1,none⟩=some (.int .i64 0)∧W7.cell? ⟨w.heap.size,2,none⟩=some (.string ⟨#[]⟩):=⟨HA7.out.cell 0,HA7.out.cell 1,HA7.out.cell 2⟩;obtain⟨-, -, -,rf0,rf1,rf2,rl⟩:=HA7.out.a3;go_wp2;refine bodyPost_ret (v:= .agg #[.int .i64 0, .int .i64 (d.size:Int), .string ⟨#[]⟩]) (by simp[results,Tryz.results68,go_sem,r0,r1,r2]) rfl ?_;unfold Azd;rw[HV.out,HR2.out];exact⟨rfl,HF7.out.ans3 (Nat.le_refl _) HLT.out _ _ _,_,HKF.out.1⟩
 ·exfalso
  rcases HCS.out with h|h|h
  ·exact h3 h
  ·exact hm h
  ·exact hk2 h
end
end Go.Proofs.YtdjamdbamkhblacGreatDoor
namespace Go.Proofs.YtdjamdbamkhblacGreatDoor
open Go.RowKit
set_option linter.unusedVariables false
set_option linter.unusedSimpArgs false
attribute [local go_sem] After.cell
section
variable {B g:Nat} {a:KA} {k:Krn} {ms:List (Value × Value)} {es:List Value}
def DevT (B:Nat) (w:World) (g bn:Nat) (a:KA) (k:Krn) (ms:List (Value × Value)) (es:List Value) (u n:Nat) (l:List UInt8) (y:Nod) (i:Value) (wr:World):Prop:=
 Cnt n i fun j=>∃ a' k',DevS B w wr g a k ms es u l j a' k'∧Tab wr∧Blk wr w.heap.size 36 #[.int .i64 0, .int .i64 0, .string ⟨#[]⟩]∧Blk wr bn 49 #[.string y.name, .int .i64 y.kind, .string y.data, .int .i64 y.unit]
theorem Iz7 (HR:RunC 102) {p i:Nat} (s:ByteArray) (w:World) (h:KS B w g a k ms es) (hk:KOk k) (ht:Tab w) (hgB:0<B) (hp:p<4) (hi:i<6)
  (h3:((k.procs.getD p default).ends.getD i default).kind≠3) (hk2:((k.procs.getD p default).ends.getD i default).kind≠2) (hd:(k.nodes.getD ((k.procs.getD p default).ends.getD i default).node.toNat default).kind=2) (hs1:1≤s.size) (hs2:s.size≤100) (h0:((k.procs.getD p default).ends.getD i default).kind≠0):
  Calls Tryz.prog 68 #[.pointer (some ⟨g,0,none⟩), .int .i64 (p:Int), .int .i64 (i:Int), .string s] w (Azd B w g ms es (Cz3 k p i s)):=by
 have HRR:=Lib.hid HR;clear HR;have hpl:p<k.procs.length:=by rw[hk.l4];exact hp
 have e6:k.procs[p].ends.length=6:=by have:=Bzb hk hp;rwa [Az3 hpl] at this
 have hil:i<k.procs[p].ends.length:=by omega
 obtain⟨b4,be,c,hp',ha4,_,hb4,he,hbe,hbel,_,y0,y1⟩:=h.prcAt hpl (by omega);have HO:Hid (∀ W:World,Below w.heap.size w W→be<W.heap.size∧W.cell? ⟨be,i*3,none⟩=some (.int .i64 k.procs[p].ends[i].kind)∧W.cell? ⟨be,i*3+1,none⟩=some (.int .i64 k.procs[p].ends[i].node)∧W.cell? ⟨be,i*3+2,none⟩=some (.int .i64 k.procs[p].ends[i].pos)):=fun W hW=>(h.below hW).opn hpl hp' he hil
 have HEO:Hid (endOk k k.procs[p].ends[i]=true):=by
  have:=Cz6 hk (p:=p) (i:=i) hp;rw[Az3 hpl,Az3 hil] at this;exact this
 have HUN:Hid ((k.procs.getD p default).ends.getD i default=k.procs[p].ends[i]):=by
  show _=_;rw[Az3 hpl,Az3 hil]
 rw[HUN.out] at h0 h3 hk2 hd;obtain⟨x,hx⟩:∃ x,x=k.procs[p].ends[i]:=⟨_,rfl⟩;rw[←hx] at HO HEO HUN h0 h3 hk2 hd;have hb2:=(Az6 w (.cells #[.int .i64 0, .int .i64 0, .string ⟨#[]⟩] 36)).alloc (Az6 w _).size (.cells #[.int .i64 x.kind, .int .i64 x.node, .int .i64 x.pos] 54);have HN:Hid (Blk ((w.alloc (.cells #[.int .i64 0, .int .i64 0, .string ⟨#[]⟩] 36)).alloc (.cells #[.int .i64 x.kind, .int .i64 x.node, .int .i64 x.pos] 54)) (w.heap.size+1) 54 #[.int .i64 x.kind, .int .i64 x.node, .int .i64 x.pos]):=Blk.new' (by simp);have HA:=Lib.hid ((Blk.new w 36 #[.int .i64 0, .int .i64 0, .string ⟨#[]⟩]).alloc (.cells #[.int .i64 x.kind, .int .i64 x.node, .int .i64 x.pos] 54));have HB:=Lib.hid hb2;have H0:=Lib.hid h;have HK:=Lib.hid hk;have HT:=Lib.hid ht;have HE:=Lib.hid (show p<k.procs.length∧x=k.procs[p].ends[i] from ⟨hpl,hx⟩);have HES:=Lib.hid he;have HP:=Lib.hid (show p<k.procs.length∧p<es.length∧i<k.procs[p].ends.length from ⟨hpl,hp',hil⟩);have HA4:=Lib.hid ha4;obtain⟨c0,c1,c2,c3,c4⟩:=h.c5;rw[hk.l4,ha4] at c4;rw[e6] at y1;obtain⟨z0,z1,z2,z3⟩:=HO.out w (Below.refl _ _);have gl:=h.blk.lt;have hpi:(p:Int)<4:=by omega
 have hii:(i:Int)<6:=by omega
 clear h hk ht hx hb2 he ha4 e6;go_enter Tryz.func68,Tryz.ntmps68;go_upto_region 2 with fail
 generalize (w.alloc (.cells #[.int .i64 0, .int .i64 0, .string ⟨#[]⟩] 36)).alloc (.cells #[.int .i64 x.kind, .int .i64 x.node, .int .i64 x.pos] 54)=W2 at*;clear c0 c1 c2 c3 c4 z0 z1 z2 z3 gl y0 y1 hb4 hbe hbel;have HF:Hid (Fr B w W2):=Fr.low HB.out (Nat.le_of_lt H0.out.lt);have HLT:Hid (B≤w.heap.size):=Nat.le_of_lt H0.out.lt;obtain⟨r0,r1,r2⟩:W2.cell? ⟨w.heap.size,0,none⟩=some (.int .i64 0)∧W2.cell? ⟨w.heap.size,1,none⟩=some (.int .i64 0)∧W2.cell? ⟨w.heap.size,2,none⟩=some (.string ⟨#[]⟩):=⟨HA.out.cell 0,HA.out.cell 1,HA.out.cell 2⟩;obtain⟨-, -, -,rf0,rf1,rf2,rl⟩:=HA.out.a3;obtain⟨n0,n1,n2⟩:W2.cell? ⟨w.heap.size+1,0,none⟩=some (.int .i64 x.kind)∧W2.cell? ⟨w.heap.size+1,1,none⟩=some (.int .i64 x.node)∧W2.cell? ⟨w.heap.size+1,2,none⟩=some (.int .i64 x.pos):=⟨HN.out.cell 0,HN.out.cell 1,HN.out.cell 2⟩;have nl:=HN.out.lt;have HK2:=Lib.hid (H0.out.below HB.out);have HV:Hid (Cz3 k p i s=Azh k p i s):=by
  show _=_;unfold Cz3;rw[HUN.out,if_neg hk2]
 have q3:(x.kind == 3)=false:=by rw[beq_eq_false_iff_ne];exact h3
 have q2:(x.kind == 2)=false:=by rw[beq_eq_false_iff_ne];exact hk2
 have HIN:=Lib.hid (Azi (s.size:Int) 1 100 W2);rw[Azl (by omega) (by omega)] at HIN;obtain⟨_,no0,no8,nk,p0,p1⟩:=Dzd HEO.out h0 hk2 h3;obtain⟨nd,hnd⟩:∃ nd:Nat,x.node=(nd:Int):=⟨x.node.toNat,by omega⟩;have l2:=HK.out.l2;have hnl:nd<k.nodes.length:=by omega
 have hgd:k.nodes.getD x.node.toNat default=k.nodes[nd]:=by rw[hnd,Int.toNat_natCast,Az3 hnl]
 have hno:Bz6 k.mods.length k.nodes[nd]=true:=by
  have:=Ezl HK.out (i:=nd) (by omega)
  rwa [Az3 hnl] at this
 rw[hgd] at nk;have HRK:Hid (Azh k p i s=if (Bzl k k.nodes[nd].unit.toNat s.data.toList).1=0 then ((Bzl k k.nodes[nd].unit.toNat s.data.toList).2,ansE 14) else ((Bzl k k.nodes[nd].unit.toNat s.data.toList).2,ansN (Bzl k k.nodes[nd].unit.toNat s.data.toList).1)):=by
  show _=_;unfold Azh;simp only;rw[HUN.out,if_neg (fun h=>by
   rcases h with h|h
   ·unfold empS at h
    simp only[beq_iff_eq] at h;omega
   ·omega),if_neg h3,hgd,if_pos (by rw[←hgd];exact hd)]
 obtain⟨y,hy⟩:∃ y,y=k.nodes[nd]:=⟨_,rfl⟩;rw[←hy] at HRK hno nk;obtain⟨b2,ha2,_,hb2⟩:=Azf HK2.out.cp.nodes (by omega);have e2:=HK2.out.c5.2.2.1;rw[ha2] at e2;obtain⟨bb,oo,hbb,_,hcc⟩:=HK2.out.krn.nodes (by omega);rw[ha2] at hbb;cases hbb
 have h4:=hcc nd hnl;rw[←hy,Nat.zero_add] at h4;rw[hnd] at n1;have HND:=Lib.hid hnd;have HNO:=Lib.hid hno;have HPI:=Lib.hid (show x.node=(nd:Int)∧nd<k.nodes.length from ⟨hnd,hnl⟩);have HR17:=Lib.hid (And.intro e2 (And.intro n1 (And.intro hb2 h4)));have gl:=HK2.out.blk.lt;rw[hgd, ←hy] at hd;have HY:=Lib.hid hy;have HNDN:=Lib.hid (And.intro nk hd);have HA2:=Lib.hid ha2;clear hcc h4 hy hnd hgd hno e2 hb2 h3 hk2 l2 hd;go_wp2_with fail;refine HIN.out.mono ?_;rintro e w1 ⟨rfl,rfl⟩;go_wp2_with fail;obtain⟨e2,n1',hb2,h4a,h4b,h4c,h4d⟩:=HR17.out;refine Fzf W2 g b2 a.c2 k.nodes.length (w.heap.size+1) nd y W2 _ (Bz4 _) gl e2 nl n1' hb2 h4a h4b h4c h4d hnl ?_;clear e2 n1' hb2 h4a h4b h4c h4d HR17;intro listed W y11 y88 y89 y90 y91 y92 y93 y94 y95 hall hJ;obtain⟨bn,rfl,hge,hbl⟩:=hJ.f9 (hall 9 (by decide));have hw:=hJ.w;have HAW:=Lib.hid (HA.out.below hw HA.out.lt);have HNW:=Lib.hid (HN.out.below hw HN.out.lt);have HKW:=Lib.hid (HK2.out.below hw);have HFW:=Lib.hid (HF.out.trans (Fr.low hw (Nat.le_of_lt HK2.out.lt)));have HBW:=Lib.hid (HB.out.trans (hw.mono HB.out.size));have HBL:=Lib.hid hbl;clear hJ hw hbl hge r0 r1 r2 rf0 rf1 rf2 rl n0 n1 n2 nl gl;obtain⟨r0,r1,r2⟩:W.cell? ⟨w.heap.size,0,none⟩=some (.int .i64 0)∧W.cell? ⟨w.heap.size,1,none⟩=some (.int .i64 0)∧W.cell? ⟨w.heap.size,2,none⟩=some (.string ⟨#[]⟩):=⟨HAW.out.cell 0,HAW.out.cell 1,HAW.out.cell 2⟩;obtain⟨-, -, -,rf0,rf1,rf2,rl⟩:=HAW.out.a3;obtain⟨n0,n1,n2⟩:W.cell? ⟨w.heap.size+1,0,none⟩=some (.int .i64 x.kind)∧W.cell? ⟨w.heap.size+1,1,none⟩=some (.int .i64 x.node)∧W.cell? ⟨w.heap.size+1,2,none⟩=some (.int .i64 x.pos):=⟨HNW.out.cell 0,HNW.out.cell 1,HNW.out.cell 2⟩;have nl:=HNW.out.lt;obtain⟨m0,m1,m2,m3⟩:W.cell? ⟨bn,0,none⟩=some (.string y.name)∧W.cell? ⟨bn,1,none⟩=some (.int .i64 y.kind)∧W.cell? ⟨bn,2,none⟩=some (.string y.data)∧W.cell? ⟨bn,3,none⟩=some (.int .i64 y.unit):=⟨HBL.out.cell 0,HBL.out.cell 1,HBL.out.cell 2,HBL.out.cell 3⟩;have sl:=HBL.out.lt;have hd2:(y.kind == 2)=true:=by rw[HNDN.out.2];rfl
 obtain⟨u0,u1,_⟩:=Dzs HNO.out HNDN.out.2;obtain⟨u,hu⟩:∃ u:Nat,y.unit=(u:Int):=⟨y.unit.toNat,by omega⟩;rw[hu,Int.toNat_natCast] at HRK;have hum:u<k.mods.length:=by omega
 have hum8:u<8:=by have:=HK.out.l0;omega
 have HU:=Lib.hid hu;have HTW:=Lib.hid (HT.out.below HBW.out);clear u0 u1;go_wp2_with fail;clear r0 r1 r2 rf0 rf1 rf2 rl n0 n1 n2 nl m0 m1 m2 m3 sl;go_loopw [12] (fun i wr=>DevT B w g bn a k ms es u s.size s.data.toList y i wr) (fun i _=>s.size - (intOf i).toNat)
 case atStart=>exact⟨0,Nat.zero_le _,rfl,a,k,⟨HKW.out,HK.out,⟨k.mem,rfl⟩,rfl,HFW.out,by simp⟩,HTW.out,HAW.out,HBL.out⟩
 case round=>
  obtain⟨j,hj,rfl,a',k',hS,hT,hA,hN⟩:=hrel;obtain⟨m,rfl⟩:=hS.eq;have HS:=Lib.hid hS;have HTT:=Lib.hid hT;have HAA:=Lib.hid hA;have HNN:=Lib.hid hN;clear hS hT hA hN;by_cases hlt:j<s.size
  ·have hjs:(j:Int)<(s.size:Int):=by omega
   obtain⟨cc,hcc⟩:∃ cc,cc=s[j]:=⟨_,rfl⟩;have HDB:=Lib.hid (drop_byte s j hlt);rw[←hcc] at HDB;have hc9:cc.toNat≤65535:=Gzu cc;have hwr:wrap64 (cc.toNat:Int)=(cc.toNat:Int):=wrap64_small hc9;go_upto_region 21 with fail
   have hKd:KS B wr.drew g a' { k with mem:=m } ms es:=HS.out.ks.below (Below.drewN' (Below.refl wr.heap.size wr) 1);have HFd:Hid (Fr B w wr.drew):=Fr.drewN HS.out.fr 1;have HAd:Hid (Blk wr.drew w.heap.size 36 #[.int .i64 0, .int .i64 0, .string ⟨#[]⟩]):=HAA.out.drewN 1;have HNd:Hid (Blk wr.drew bn 49 #[.string y.name, .int .i64 y.kind, .string y.data, .int .i64 y.unit]):=HNN.out.drewN 1;have HTd:Hid (Tab wr.drew):=(HTT.out.below (Below.drewN' (Below.refl wr.heap.size wr) 1));have HASK:=Lib.hid (Ezb HRR.out u cc.toNat wr.drew hKd HS.out.ok HTd.out hum hc9);clear hKd;have hwi:IntKind.i64.wrap (cc.toNat:Int)=(cc.toNat:Int):=wrap_small hc9;have y3:wr.drew.cell? ⟨bn,3,none⟩=some (.int .i64 (u:Int)):=by rw[←HU.out];exact HNd.out.cell 3
   have yl:bn<wr.drew.heap.size:=HNd.out.lt;subst hcc;refine Mzj wr.drew g bn u j s hlt (fun v b w'=>Hz9 B wr.drew g ms es a' { k with mem:=m } (askK { k with mem:=m } u s[j].toNat) (.returned (.tuple #[.int .i64 v, .bool b])) w') wr _ yl y3 hwi hwr ?_ rfl ?_
   ·refine HASK.out.mono ?_
    rintro e w' hA;rcases hA with⟨h1,h2,(⟨h3,rfl,h4⟩|⟨v,k2,a2,h3,rfl,h4⟩)⟩
    ·exact⟨_,_,rfl,h1,h2, .inl ⟨h3,rfl,h4⟩⟩
    ·exact⟨_,_,rfl,h1,h2, .inr ⟨v,k2,a2,h3,rfl,h4⟩⟩
   clear yl y3 hwi hwr HASK;intro listed w3 y13 y14 y105 y106 y107 y108 y109 y110 y111 y112 y113 y114 y115 hall hJ;obtain⟨sp,rfl,hE⟩:=hJ.f11 (hall 11 (by decide));obtain⟨sq,rfl,hE2⟩:=hJ.f12 (hall 12 (by decide));have hP:=hE2;clear hJ hE;obtain⟨v0,bb⟩:=sq;rcases hP with⟨hf3,ht3,(⟨hn,hee,hk3⟩|⟨v,k2,a2,hs,hee,hk3,ea,_,ea2,_⟩)⟩
   all_goals (simp only at hee;injection hee with hee;injection hee with hee;simp only[Array.mk.injEq,List.cons.injEq,Value.int.injEq,Value.bool.injEq,true_and,and_true] at hee;obtain⟨rfl,rfl⟩:=hee)
   ·have hall:=HS.out.all
    rw[HDB.out,Gz7 hn] at hall;simp only[Nat.zero_add] at hall;have HF3:=Lib.hid (HFd.out.trans hf3);have HK3:=Lib.hid hk3;have HA3:=Lib.hid (HAd.out.tch ht3 (by decide));by_cases hj0:j=0
    ·have HV2:Hid (Azh k p i s=({ k with mem:=m },ansE 14)):=by
      show _=_;rw[HRK.out,hall];simp only;rw[if_pos hj0]
     have HKF:=Lib.hid (HK3.out.ans3 HA3.out HLT.out (.int .i64 14) (.int .i64 0) (.string ⟨#[]⟩));have j0:((j:Int) == 0)=true:=by rw[hj0];rfl
     have j1:(j:Int)=0:=by omega
     clear hall hj0 hn hf3 ht3 hk3;obtain⟨r0,r1,r2⟩:w3.cell? ⟨w.heap.size,0,none⟩=some (.int .i64 0)∧w3.cell? ⟨w.heap.size,1,none⟩=some (.int .i64 0)∧w3.cell? ⟨w.heap.size,2,none⟩=some (.string ⟨#[]⟩):=⟨HA3.out.cell 0,HA3.out.cell 1,HA3.out.cell 2⟩;obtain⟨-, -, -,rf0,rf1,rf2,rl⟩:=HA3.out.a3
     dsimp only
     go_wp2;refine bodyPost_ret (v:= .agg #[.int .i64 14, .int .i64 0, .string ⟨#[]⟩]) (by simp[results,Tryz.results68,go_sem,r0,r1,r2]) rfl ?_;unfold Azd;rw[HV.out,HV2.out];exact⟨rfl,HF3.out.ans3 (Nat.le_refl _) HLT.out _ _ _,_,HKF.out.1⟩
    ·have HV2:Hid (Azh k p i s=({ k with mem:=m },ansN j)):=by
      show _=_;rw[HRK.out,hall];simp only;rw[if_neg hj0]
     have HKF:=Lib.hid (HK3.out.ans3 HA3.out HLT.out (.int .i64 0) (.int .i64 (j:Int)) (.string ⟨#[]⟩));have j0:((j:Int) == 0)=false:=by rw[beq_eq_false_iff_ne];omega
     clear hall hj0 hn hf3 ht3 hk3;obtain⟨r0,r1,r2⟩:w3.cell? ⟨w.heap.size,0,none⟩=some (.int .i64 0)∧w3.cell? ⟨w.heap.size,1,none⟩=some (.int .i64 0)∧w3.cell? ⟨w.heap.size,2,none⟩=some (.string ⟨#[]⟩):=⟨HA3.out.cell 0,HA3.out.cell 1,HA3.out.cell 2⟩;obtain⟨-, -, -,rf0,rf1,rf2,rl⟩:=HA3.out.a3
     dsimp only
     go_wp2;refine bodyPost_ret (v:= .agg #[.int .i64 0, .int .i64 (j:Int), .string ⟨#[]⟩]) (by simp[results,Tryz.results68,go_sem,r0,r1,r2]) rfl ?_;unfold Azd;rw[HV.out,HV2.out];exact⟨rfl,HF3.out.ans3 (Nat.le_refl _) HLT.out _ _ _,_,HKF.out.1⟩
   ·obtain⟨hok,_,_,m2,rfl⟩:=Kzi HS.out.ok hc9 hum hs
    have hall:=HS.out.all;rw[HDB.out,Gz8 hs] at hall;have hS2:DevS B w w3 g a k ms es u s.data.toList (j+1) a2 { k with mem:=m2 }:=⟨hk3,hok,⟨m2,rfl⟩,ea2.trans HS.out.a2,HFd.out.trans hf3,by rw[hall];simp only;congr 1;omega⟩;have hT3:Tab w3:=⟨Nat.lt_of_lt_of_le HTd.out.1 hf3.low'.size,fun q hq=>(hf3.low'.cell (p:=⟨_,q,none⟩) hgB).trans (HTd.out.2 q hq)⟩;have hA3:=HAd.out.tch ht3 (by decide);have hN3:=HNd.out.tch ht3 (by decide);have HS2:=Lib.hid (And.intro hS2 (And.intro hT3 (And.intro hA3 hN3)));clear hall hS2 hT3 hA3 hN3 hs hf3 ht3 hk3 hok
    dsimp only
    go_wp2;refine⟨⟨j+1,hlt,by go_num,_,_,HS2.out.1,HS2.out.2.1,HS2.out.2.2.1,HS2.out.2.2.2⟩,?_⟩;simp[intOf];omega
  ·obtain rfl:j=s.size:=by omega
   have hall:=HS.out.all;have hnil:s.data.toList.drop s.size=[]:=by
    rw[List.drop_eq_nil_iff];simp
   rw[hnil] at hall;have HV2:Hid (Azh k p i s=({ k with mem:=m },ansN s.size)):=by
    show _=_;rw[HRK.out,hall];simp only[Bzl,Nat.zero_add];rw[if_neg (by omega)]
   have HKF:=Lib.hid (HS.out.ks.ans3 HAA.out HLT.out (.int .i64 0) (.int .i64 (s.size:Int)) (.string ⟨#[]⟩));clear hall hnil hlt;obtain⟨r0,r1,r2⟩:wr.cell? ⟨w.heap.size,0,none⟩=some (.int .i64 0)∧wr.cell? ⟨w.heap.size,1,none⟩=some (.int .i64 0)∧wr.cell? ⟨w.heap.size,2,none⟩=some (.string ⟨#[]⟩):=⟨HAA.out.cell 0,HAA.out.cell 1,HAA.out.cell 2⟩;obtain⟨-, -, -,rf0,rf1,rf2,rl⟩:=HAA.out.a3;go_wp2;refine bodyPost_ret (v:= .agg #[.int .i64 0, .int .i64 (s.size:Int), .string ⟨#[]⟩]) (by simp[results,Tryz.results68,go_sem,r0,r1,r2]) rfl ?_;unfold Azd;rw[HV.out,HV2.out];exact⟨rfl,HS.out.fr.ans3 (Nat.le_refl _) HLT.out _ _ _,_,HKF.out.1⟩
end
end Go.Proofs.YtdjamdbamkhblacGreatDoor
