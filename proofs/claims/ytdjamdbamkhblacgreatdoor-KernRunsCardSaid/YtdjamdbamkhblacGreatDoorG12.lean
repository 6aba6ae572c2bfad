/- The walk of the kernel's by: pipe. No condition. By an AI agent (xby.py). A region that draws its order, walked once by an invariant over what has run so far. No condition. Small words for the use of wp_region_inv: no condition. wp_region_inv for a region with an order of one compiler's alone (an edge that does not bind): what binds waits for earlier operations. No condition. -/
import Derived.Test.YtdjamdbamkhblacGreatDoorG09
import Derived.RegionTactic
namespace Go.Proofs.YtdjamdbamkhblacGreatDoor
open Go.RowKit
set_option linter.unusedVariables false
set_option linter.unusedSimpArgs false
attribute [local go_sem] After.cell
section
variable {B g b4 p:Nat} {a:KA} {k:Krn} {ms:List (Value × Value)} {es:List Value}
set_option maxRecDepth 100000 in
set_option maxHeartbeats 4000000 in
theorem Qzv (nm dt:ByteArray) (a1 a2 a3:Int) (w:World) (h:KS B w g a k ms es) (hk:KOk k) (hp:p<4) (ha4:a.a4=some ⟨b4,0,none⟩):
  Calls Tryz.prog 19 #[.agg #[.pointer (some ⟨g,0,none⟩)], .pointer (some ⟨b4,p*2,none⟩), .agg #[.int .i64 9, .int .i64 a1, .int .i64 a2, .int .i64 a3, .string nm, .string dt]] w (Cz1 B w g ms (Fz9 k p)):=by
 obtain⟨hpl,be,c,hp',hel,HUN,HKO,HES,HPL,HPLC,HLT,HA4⟩:=Dzk w h hk hp ha4;have S0:=ByAt.start h #[.int .i64 9, .int .i64 a1, .int .i64 a2, .int .i64 a3, .string nm, .string dt];clear h hk ha4;have HHAS:Hid (∀ (W:World) (kd:Int) (j:Nat),KS B W g a k ms es→Calls Tryz.prog 38 #[.agg #[.slice a.a0 k.mods.length a.c0, .slice a.a1 k.mem.length a.c1, .slice a.a2 8 a.c2, .slice a.a3 6 a.c3, .slice a.a4 4 a.c4], .int .i64 kd, .int .i64 (j:Int)] W fun e w'=>e= .returned (.bool (hasE k.procs kd (j:Int)))∧Below W.heap.size W w'):=fun W kd j hW=>by
  have:=Dzz (.slice a.a0 k.mods.length a.c0) (.slice a.a1 k.mem.length a.c1) (.slice a.a2 8 a.c2) (.slice a.a3 6 a.c3) a.a4 a.c4 k.procs kd (j:Int) W hW.krn.procs (by rw[HKO.out.l4];unfold maxLen;omega);rw[HKO.out.l4] at this;exact this
 go_enter Tryz.func19,Tryz.ntmps19;go_upto_region 2 with fail
 refine(show ∀ W:World,ByAt B w W g a k ms es #[.int .i64 9, .int .i64 a1, .int .i64 a2, .int .i64 a3, .string nm, .string dt]→Code.wp _ _ _ _ W from ?_) _ S0;clear S0;intro W0 hS;have HS:=Lib.hid hS;clear hS;obtain⟨c0, -, -, -,cl⟩:=HS.out.ac.a2;simp at c0;go_wp2_with fail;refine(HPLC.out W0 HS.out.ks).mono ?_;rintro e w1 ⟨rfl,hb⟩;have HS1:=Lib.hid (HS.out.below hb);clear hb HS;clear c0 cl;clear HPLC HPL;obtain⟨x0, -, -, -,xl⟩:=HS1.out.wk.a2;simp at x0;obtain⟨d0,d1,d2,d3,d4⟩:=HS1.out.ks.c5;have gl:=HS1.out.ks.blk.lt;rw[HKO.out.l3] at d3;rw[HKO.out.l4] at d4;rw[HKO.out.l2] at d2;have HP0:Hid (pipF k 0= -1):=rfl;go_wp2_with fail;clear d0 d1 d2 d3 d4 gl x0 xl;go_loopw [11,62] (fun n i wr=>Cnt 6 i fun j=>n= .int .i64 (pipF k j)∧ByAt B w wr g a k ms es #[.int .i64 9, .int .i64 a1, .int .i64 a2, .int .i64 a3, .string nm, .string dt]) (fun _ i _=>6 - (intOf i).toNat)
 case atStart=>exact⟨0,Nat.zero_le _,rfl,by rw[HP0.out],HS1.out⟩
 case round=>
  clear HS1;obtain⟨j,hj,rfl,rfl,hS⟩:=hrel;have HS:=Lib.hid hS;clear hS;by_cases hlt:j<6
  ·obtain⟨fn,hfn⟩:∃ fn,fn=pipF k j:=⟨_,rfl⟩
   have HST:=Lib.hid (Dzq (k:=k) hlt);rw[←hfn] at HST;rw[←hfn];have HNG:Hid (fn<0→fn= -1):=fun h=>by rw[hfn];exact Pzj (by rw[←hfn];exact h)
   have hj6:(j:Int)<6:=by omega
   clear hfn;obtain⟨x0, -, -, -,xl⟩:=HS.out.wk.a2;simp at x0;obtain⟨d0,d1,d2,d3,d4⟩:=HS.out.ks.c5;have gl:=HS.out.ks.blk.lt;rw[HKO.out.l3] at d3;rw[HKO.out.l4] at d4;rw[HKO.out.l2] at d2;by_cases h0:0≤fn
   ·have HE:Hid (pipF k (j+1)=fn):=by show _=_;rw[HST.out,if_pos h0]
    have h0':¬ fn<0:=by omega
    clear h0;go_wp2;go_roundw
    case rel=>first|exact⟨j+1,by omega,by go_num,by rw[HE.out],HS.out⟩|((repeat apply Exists.intro);exact⟨⟨j+1,by omega,by go_num,by rw[HE.out],HS.out⟩,rfl⟩)
    case measure=>simp[intOf];omega
   ·have h0':fn<0:=by omega
    have hfm:=HNG.out h0';subst hfm;clear h0;cases h2:hasE k.procs 2 (j:Int) with
    | true=>
      have HE:Hid (pipF k (j+1)= -1):=by show _=_;rw[HST.out,if_neg (by omega),if_neg (by unfold pipP;rw[h2];simp)]
      have HC:=Lib.hid (HHAS.out wr 2 j HS.out.ks);rw[h2] at HC;clear h2;go_wp2_with fail;refine HC.out.mono ?_;rintro e w2 ⟨rfl,hb⟩;have HS2:=Lib.hid (HS.out.below hb);clear hb HC;go_wp2;go_roundw
      case rel=>first|exact⟨j+1,by omega,by go_num,by rw[HE.out],HS2.out⟩|((repeat apply Exists.intro);exact⟨⟨j+1,by omega,by go_num,by rw[HE.out],HS2.out⟩,rfl⟩)
      case measure=>simp[intOf];omega
    | false=>
      have HC:=Lib.hid (HHAS.out wr 2 j HS.out.ks);rw[h2] at HC;have HH2:=Lib.hid h2;clear h2;go_wp2_with fail;refine HC.out.mono ?_;rintro e w2 ⟨rfl,hb⟩;have HS2:=Lib.hid (HS.out.below hb);clear hb HC x0 xl d0 d1 d2 d3 d4 gl;obtain⟨x0, -, -, -,xl⟩:=HS2.out.wk.a2;simp at x0;obtain⟨d0,d1,d2,d3,d4⟩:=HS2.out.ks.c5;have gl:=HS2.out.ks.blk.lt;rw[HKO.out.l3] at d3;rw[HKO.out.l4] at d4;rw[HKO.out.l2] at d2;have HC:=Lib.hid (HHAS.out w2 3 j HS2.out.ks);cases h3:hasE k.procs 3 (j:Int) with
      | true=>
        have HE:Hid (pipF k (j+1)= -1):=by show _=_;rw[HST.out,if_neg (by omega),if_neg (by unfold pipP;rw[h3];simp)]
        rw[h3] at HC;clear h3;go_wp2_with fail;refine HC.out.mono ?_;rintro e w3 ⟨rfl,hb⟩;have HS3:=Lib.hid (HS2.out.below hb);clear hb HC;go_wp2;go_roundw
        case rel=>first|exact⟨j+1,by omega,by go_num,by rw[HE.out],HS3.out⟩|((repeat apply Exists.intro);exact⟨⟨j+1,by omega,by go_num,by rw[HE.out],HS3.out⟩,rfl⟩)
        case measure=>simp[intOf];omega
      | false=>
        have HE:Hid (pipF k (j+1)=(j:Int)):=by show _=_;rw[HST.out,if_neg (by omega),if_pos (by unfold pipP;rw[HH2.out,h3];rfl)]
        rw[h3] at HC;clear h3;go_wp2_with fail;refine HC.out.mono ?_;rintro e w3 ⟨rfl,hb⟩;have HS3:=Lib.hid (HS2.out.below hb);clear hb HC;go_wp2;go_roundw
        case rel=>first|exact⟨j+1,by omega,by go_num,by rw[HE.out],HS3.out⟩|((repeat apply Exists.intro);exact⟨⟨j+1,by omega,by go_num,by rw[HE.out],HS3.out⟩,rfl⟩)
        case measure=>simp[intOf];omega
  ·obtain rfl:j=6:=by omega
   rw[Hzy k];clear hlt hj;have HV:Hid (Fz9 k p=if Bzc k.procs[p].ends<0∨Bzd k<0 then (k,ansE 8) else if Bzc ((setEnd k p (Bzc k.procs[p].ends).toNat ⟨2,Bzd k,0⟩).procs.getD p default).ends<0 then (k,ansE 8) else (setEnd (setEnd k p (Bzc k.procs[p].ends).toNat ⟨2,Bzd k,0⟩) p (Bzc ((setEnd k p (Bzc k.procs[p].ends).toNat ⟨2,Bzd k,0⟩).procs.getD p default).ends).toNat ⟨3,Bzd k,0⟩,ansN (Bzc k.procs[p].ends).toNat)):=by
    show _=_;unfold Fz9;rw[HUN.out]
   obtain⟨fe,hfe⟩:∃ fe,fe=Bzc k.procs[p].ends:=⟨_,rfl⟩;obtain⟨fp,hfp⟩:∃ fp,fp=Bzd k:=⟨_,rfl⟩;have HFE:=Lib.hid hfe;rw[←hfe, ←hfp] at HV;rw[←hfe, ←hfp];clear hfe hfp HP0 HHAS;by_cases h8:fe<0∨fp<0
   ·rw[if_pos h8] at HV
    by_cases h9:fe<0
    ·clear h8
     obtain⟨o0,o1,of0,of1,ol⟩:=HS.out.ot.a2;simp at o0 o1;go_upto_region 25 with fail
     refine(show ∀ W7:World,ByEnd B w W7 g a k ms es 8 0 noS→Code.wp _ _ _ _ W7 from ?_) _ (HS.out.code 8);intro W7 h7;obtain⟨o0,o1,o2, -⟩:=h7.ot.a3;obtain⟨r0,r1,r2,f0,f1,f2, -⟩:=h7.rs.a3;have ol:=h7.ot.lt;have rl:=h7.rs.lt;simp at o0 o1 o2 r0 r1 r2;have H7:=Lib.hid h7;clear h7;go_wp2;refine bodyPost_ret (v:= .agg #[.int .i64 8, .int .i64 0, .string noS]) (by simp[results,Tryz.results19,go_sem,r0,r1,r2]) rfl ?_;exact H7.out.fin _ HV.out
    ·have h10:fp<0:=by omega
     clear h8;obtain⟨o0,o1,of0,of1,ol⟩:=HS.out.ot.a2;simp at o0 o1;go_upto_region 25 with fail
     refine(show ∀ W7:World,ByEnd B w W7 g a k ms es 8 0 noS→Code.wp _ _ _ _ W7 from ?_) _ (HS.out.code 8);intro W7 h7;obtain⟨o0,o1,o2, -⟩:=h7.ot.a3;obtain⟨r0,r1,r2,f0,f1,f2, -⟩:=h7.rs.a3;have ol:=h7.ot.lt;have rl:=h7.rs.lt;simp at o0 o1 o2 r0 r1 r2;have H7:=Lib.hid h7;clear h7;go_wp2;refine bodyPost_ret (v:= .agg #[.int .i64 8, .int .i64 0, .string noS]) (by simp[results,Tryz.results19,go_sem,r0,r1,r2]) rfl ?_;exact H7.out.fin _ HV.out
   ·rw[if_neg h8] at HV
    have h9:¬ fe<0:=by omega
    have h10:¬ fp<0:=by omega
    clear h8;obtain⟨i,hi,he,hi0⟩:=Bzw (l:=k.procs[p].ends) (by rw[←HFE.out];omega);have e1:fe=(i:Int):=HFE.out.trans he;subst e1;rw[Int.toNat_natCast] at HV;have hi6:i<6:=by omega
    have HI:=Lib.hid hi;have HDF:=Lib.hid (Pz1 HKO.out hp hpl hi hi0);clear h9 he hi0;obtain⟨bl,z1,_⟩:=HS.out.ks.place_ hpl hp' HA4.out HES.out hel;obtain⟨el,y0,y1,y2⟩:=HS.out.ks.opnB hpl hp' HES.out HI.out;have g0:=HS.out.ks.rdF hpl hp' HES.out (i*3);have g1:=HS.out.ks.rdF hpl hp' HES.out (i*3+1);have g2:=HS.out.ks.rdF hpl hp' HES.out (i*3+2);have HN:=Lib.hid (HS.out.ks.endAll hpl hp' HES.out HI.out (⟨2,fp,0⟩:Opn));obtain⟨hp1,hi1,G1,L1⟩:=Dzw hpl HI.out (⟨2,fp,0⟩:Opn);have HI1:=Lib.hid hi1;have HP1:=Lib.hid hp1;have HL1:=Lib.hid (L1.trans hel);have HE1:Hid (es[p]= .slice (some ⟨be,0,none⟩) (setEnd k p i ⟨2,fp,0⟩).procs[p].ends.length c):=HES.out.trans (congrArg (fun n=>Value.slice (some ⟨be,0,none⟩) n c) L1.symm);have HU1:Hid ((setEnd k p i ⟨2,fp,0⟩).procs.getD p default=(setEnd k p i ⟨2,fp,0⟩).procs[p]):=Az3 hp1;have HBK:=Lib.hid (Kz7 hpl HI.out (⟨2,fp,0⟩:Opn) HDF.out);clear G1 L1;go_upto_region 27 with fail
    refine(show ∀ W4:World,ByAt B w W4 g a (setEnd k p i ⟨2,fp,0⟩) ms es _→Code.wp _ _ _ _ W4 from ?_) _ (HS.out.next HN.out.1 HN.out.2);clear HN HS bl z1 el y0 y1 y2 g0 g1 g2;intro W4 hS4;obtain⟨bl,z1,hcall⟩:=hS4.ks.place_ HP1.out hp' HA4.out HE1.out HL1.out;have HS4:=Lib.hid hS4;rw[HU1.out] at HV;obtain⟨fe2,hfe2⟩:∃ fe2,fe2=Bzc (setEnd k p i ⟨2,fp,0⟩).procs[p].ends:=⟨_,rfl⟩;have HFE2:=Lib.hid hfe2;rw[←hfe2] at HV;have HC:Hid (Calls Tryz.prog 52 #[.pointer (some ⟨b4,p*2,none⟩)] W4 fun e w'=>e= .returned (.int .i64 fe2)∧Below W4.heap.size W4 w'):=by
     refine hcall.mono ?_;rintro e w' ⟨h1,h2⟩;exact⟨h1.trans (congrArg (fun z=>Ending.returned (.int .i64 z)) hfe2.symm),h2⟩
    clear hS4 hcall hfe2 bl z1;go_wp2_with fail;refine HC.out.mono ?_;rintro e w5 ⟨rfl,hb⟩;have HS5:=Lib.hid (HS4.out.below hb);clear hb HC HS4;obtain⟨bl,z1,_⟩:=HS5.out.ks.place_ HP1.out hp' HA4.out HE1.out HL1.out;by_cases h8:fe2<0
    ·rw[if_pos h8] at HV
     obtain⟨el,y0,y1,y2⟩:=HS5.out.ks.opnB HP1.out hp' HE1.out HI1.out;have g0:=HS5.out.ks.rdF HP1.out hp' HE1.out (i*3);have g1:=HS5.out.ks.rdF HP1.out hp' HE1.out (i*3+1);have g2:=HS5.out.ks.rdF HP1.out hp' HE1.out (i*3+2);have HN:=Lib.hid (HS5.out.ks.endAll HP1.out hp' HE1.out HI1.out (default:Opn));rw[HBK.out] at HN;go_upto_region 30 with fail
     refine(show ∀ W6:World,ByAt B w W6 g a k ms es _→Code.wp _ _ _ _ W6 from ?_) _ (HS5.out.next HN.out.1 HN.out.2);clear HN HS5 bl z1 el y0 y1 y2 g0 g1 g2;intro W6 hS6;have HS6:=Lib.hid hS6;clear hS6;obtain⟨o0,o1,of0,of1,ol⟩:=HS6.out.ot.a2;simp at o0 o1;go_upto_region 31 with fail
     refine(show ∀ W7:World,ByEnd B w W7 g a k ms es 8 0 noS→Code.wp _ _ _ _ W7 from ?_) _ (HS6.out.code 8);intro W7 h7;obtain⟨o0,o1,o2, -⟩:=h7.ot.a3;obtain⟨r0,r1,r2,f0,f1,f2, -⟩:=h7.rs.a3;have ol:=h7.ot.lt;have rl:=h7.rs.lt;simp at o0 o1 o2 r0 r1 r2;have H7:=Lib.hid h7;clear h7;go_wp2;refine bodyPost_ret (v:= .agg #[.int .i64 8, .int .i64 0, .string noS]) (by simp[results,Tryz.results19,go_sem,r0,r1,r2]) rfl ?_;exact H7.out.fin _ HV.out
    ·rw[if_neg h8] at HV
     obtain⟨q,hq,he,hq0⟩:=Bzw (l:=(setEnd k p i ⟨2,fp,0⟩).procs[p].ends) (by rw[←HFE2.out];omega);have e1:fe2=(q:Int):=HFE2.out.trans he;subst e1;rw[Int.toNat_natCast] at HV;have hq6:q<6:=by have:=HL1.out;omega
     have HQ:=Lib.hid hq;clear h8 he hq0 hq;obtain⟨el,y0,y1,y2⟩:=HS5.out.ks.opnB HP1.out hp' HE1.out HQ.out;have g0:=HS5.out.ks.rdF HP1.out hp' HE1.out (q*3);have g1:=HS5.out.ks.rdF HP1.out hp' HE1.out (q*3+1);have g2:=HS5.out.ks.rdF HP1.out hp' HE1.out (q*3+2);have HN:=Lib.hid (HS5.out.ks.endAll HP1.out hp' HE1.out HQ.out (⟨3,fp,0⟩:Opn));go_upto_region 33 with fail
     refine(show ∀ W6:World,ByAt B w W6 g a (setEnd (setEnd k p i ⟨2,fp,0⟩) p q ⟨3,fp,0⟩) ms es _→Code.wp _ _ _ _ W6 from ?_) _ (HS5.out.next HN.out.1 HN.out.2);clear HN HS5 bl z1 el y0 y1 y2 g0 g1 g2;intro W6 hS6;have HS6:=Lib.hid hS6;clear hS6;obtain⟨o0,o1,of0,of1,ol⟩:=HS6.out.ot.a2;simp at o0 o1;go_upto_region 34 with fail
     refine(show ∀ W7:World,ByEnd B w W7 g a (setEnd (setEnd k p i ⟨2,fp,0⟩) p q ⟨3,fp,0⟩) ms es 0 i noS→Code.wp _ _ _ _ W7 from ?_) _ (HS6.out.num i);intro W7 h7;obtain⟨o0,o1,o2, -⟩:=h7.ot.a3;obtain⟨r0,r1,r2,f0,f1,f2, -⟩:=h7.rs.a3;have ol:=h7.ot.lt;have rl:=h7.rs.lt;simp at o0 o1 o2 r0 r1 r2;have H7:=Lib.hid h7;clear h7;go_wp2;refine bodyPost_ret (v:= .agg #[.int .i64 0, .int .i64 i, .string noS]) (by simp[results,Tryz.results19,go_sem,r0,r1,r2]) rfl ?_;exact H7.out.fin _ HV.out
end
end Go.Proofs.YtdjamdbamkhblacGreatDoor
namespace Go.Proofs.YtdjamdbamkhblacGreatDoor
open Go.RowKit
section
variable {P:Program} {ops:Array Oper} {Q:Exit→Act→World→Prop} {md:Region.Mode}
theorem Ezn {listed:Array Bool} {i:Nat} (h:i∈Region.ready md ops listed):∃ o,ops[i]? =some o∧listed.getD i true=false∧(o.after.all fun e=> !Region.binds md e || listed.getD e.on false)=true:=by
 unfold Region.ready at h;obtain⟨h1,h2⟩:=List.mem_filter.1 h;rw[Bool.and_eq_true] at h2;obtain⟨h3,h4⟩:=h2;cases ho:ops[i]? with
 | none=>rw[ho] at h4;simp at h4
 | some o=>
   rw[ho] at h4;exact⟨o,rfl,by simpa using h3,by simpa using h4⟩
theorem Jz2 {listed:Array Bool} (hord:∀ (i:Nat) (o:Oper),ops[i]? =some o→∀ e∈o.after,e.on<i) (h:Region.ready md ops listed=[]):∀ i,i<ops.size→listed.getD i true=true:=by
 intro i
 induction i using Nat.strongRecOn with
 | ind i ih=>
   intro hi;cases hl:listed.getD i true with
   | true=>rfl
   | false=>
     exfalso;have:i∈Region.ready md ops listed:=by
      unfold Region.ready;refine List.mem_filter.2 ⟨List.mem_range.2 hi,?_⟩;obtain⟨o,ho⟩:∃ o,ops[i]? =some o:=⟨_,Array.getElem?_eq_getElem hi⟩;rw[hl,ho];simp only[Bool.not_false,Bool.true_and,Option.map_some,Option.getD_some];rw[Array.all_eq_true_iff_forall_mem];intro e he;have h1:=hord i o ho e he;have h2:=ih e.on h1 (by omega);have h3:listed.getD e.on false=true:=by
       rw[Array.getD_eq_getD_getElem?] at h2 ⊢;cases hx:listed[e.on]? with
       | none=>
         exfalso;rw[Array.getD_eq_getD_getElem?] at hl;cases hy:listed[i]? with
         | none=>rw[hy] at hl;simp at hl
         | some b=>
           have:=(Array.getElem?_eq_some_iff.1 hy).1;have:=Array.getElem?_eq_none_iff.1 hx;omega
       | some b=>rw[hx] at h2;simpa using h2
      rw[h3];simp
     rw[h] at this;cases this
def Dzh (listed:Array Bool):Nat:=listed.toList.countP (· == false)
theorem Dz2 {listed:Array Bool} {i:Nat} (h:listed.getD i true=false):Dzh (listed.setIfInBounds i true)+1=Dzh listed:=by
 rw[Array.getD_eq_getD_getElem?] at h;cases hy:listed[i]? with
 | none=>rw[hy] at h;simp at h
 | some b=>
   rw[hy] at h;have hb:b=false:=by simpa using h
   subst hb;obtain⟨hi,hv⟩:=Array.getElem?_eq_some_iff.1 hy;unfold Dzh;rw[Array.toList_setIfInBounds,List.set_eq_take_append_cons_drop,if_pos (by simpa using hi)];have e:listed.toList=listed.toList.take i++false::listed.toList.drop (i+1):=by
    conv=>lhs;rw[←List.take_append_drop i listed.toList]
    congr 1
    rw[List.drop_eq_getElem_cons (by simpa using hi)]
    congr 1
   conv=>rhs;rw[e]
   simp only[List.countP_append,List.countP_cons];simp;omega
theorem Ozh (I:Array Bool→Act→World→Prop) (hord:∀ (i:Nat) (o:Oper),ops[i]? =some o→∀ e∈o.after,e.on<i)
  (hstep:∀ (i:Nat) (o:Oper),ops[i]? =some o→∀ listed a w,listed.getD i true=false→(o.after.all fun e=> !Region.binds md e || listed.getD e.on false)=true→I listed a w→
    ∀ K:Act→World→Prop,(∀ a w,I (listed.setIfInBounds i true) a w→K a w)→if Region.wanted o (yielded ops a.tmps)=true then Oper.wp P o a w K Q else K (a.put o.dst undef) w)
  (hend:∀ listed a w,(∀ i,i<ops.size→listed.getD i true=true)→I listed a w→Q .normal a w):
  ∀ (fuel:Nat) (listed:Array Bool) (a:Act) (w:World),Dzh listed≤fuel→I listed a w→wpAny P md ops Q fuel listed a w:=by
 intro fuel
 induction fuel with
 | zero=>
   intro listed a w hu hI;have hr:Region.ready md ops listed=[]:=by
    cases hr:Region.ready md ops listed with
    | nil=>rfl
    | cons i r=>
      obtain⟨o,ho,h1,h2⟩:=Ezn (md:=md) (ops:=ops) (listed:=listed) (i:=i) (by rw[hr];simp);have:=Dz2 h1;omega
   exact⟨hr,hend _ _ _ (Jz2 hord hr) hI⟩
 | succ fuel ih=>
   intro listed a w hu hI;refine⟨fun hr=>hend _ _ _ (Jz2 hord hr) hI,fun i hi=>?_⟩;obtain⟨o,ho,h1,h2⟩:=Ezn hi;refine wpOp_step ho fun K' hK'=>?_
   refine hstep i o ho listed a w h1 h2 hI K' fun a' w' hI'=>hK' _ _ (ih _ _ _ ?_ hI')
   have:=Dz2 h1;omega
theorem Ezt (n:Nat):Dzh (Array.replicate n false)≤n:=by
 unfold Dzh;refine Nat.le_trans List.countP_le_length ?_;simp
theorem Azw {id:Nat} {a:Act} {w:World} (I:Array Bool→Act→World→Prop) (hm:P.follows .mixedOrders=true) (hord:∀ (i:Nat) (o:Oper),ops[i]? =some o→∀ e∈o.after,e.on<i)
  (h0:I (Array.replicate ops.size false) a w.drew)
  (hstep:∀ (i:Nat) (o:Oper),ops[i]? =some o→∀ listed a w,listed.getD i true=false→(o.after.all fun e=> !Region.binds .any e || listed.getD e.on false)=true→I listed a w→
    ∀ K:Act→World→Prop,(∀ a w,I (listed.setIfInBounds i true) a w→K a w)→if Region.wanted o (yielded ops a.tmps)=true then Oper.wp P o a w K Q else K (a.put o.dst undef) w)
  (hend:∀ listed a w,(∀ i,i<ops.size→listed.getD i true=true)→I listed a w→Q .normal a w):(Code.region id ops true).wp P Q a w:=
 wp_region_any hm (Ozh I hord hstep hend _ _ _ _ (Ezt _) h0)
def ordB (ops:Array Oper):Bool:=(List.range ops.size).all fun i=>match ops[i]? with
 | some o=>o.after.all fun e=>decide (e.on<i)
 | none=>true
theorem Fzs (h:ordB ops=true):∀ (i:Nat) (o:Oper),ops[i]? =some o→∀ e∈o.after,e.on<i:=fun i o ho e he=>by
 have hi:i<ops.size:=(Array.getElem?_eq_some_iff.1 ho).1;have:=(List.all_eq_true.1 h) i (List.mem_range.2 hi);rw[ho] at this
 simpa using(Array.all_eq_true_iff_forall_mem.1 this) e he
end
theorem Az2 (listed:Array Bool) (i j:Nat):(listed.setIfInBounds i true).getD j true=(decide (i=j) || listed.getD j true):=by
 rw[Array.getD_eq_getD_getElem?,Array.getD_eq_getD_getElem?,Array.getElem?_setIfInBounds];by_cases h:i=j
 ·subst h
  by_cases h2:i<listed.size<;>simp[h2]
 ·simp[h]
theorem Az0 {l:Array Bool} {j:Nat} (h:l[j]?.getD false=true):l.getD j true=true:=by
 rw[Array.getD_eq_getD_getElem?];cases hj:l[j]? with
 | none=>rfl
 | some b=>rw[hj] at h;exact h
theorem nlR {a b:Bool} (q:b=true→a=true) (h:a=false):b=false:=by
 cases b with
 | false=>rfl
 | true=>rw[q rfl] at h;cases h
theorem tfR {Q:Prop} (h:true=false):Q:=by cases h
section
variable {P:Program} (w:World)
theorem Czu {ops:Array Oper} {o:Oper} {a:Act} {K:Act→World→Prop} {Q:Exit→Act→World→Prop} {E:Prop} (hgd:o.guard=none) (s x:Operand) (t:TypeId)
  (ho:o.op= .call { callee:= .builtin .append,args:= #[s,x],argTypes:= #[t,t] })
  (base:Nat) (e:TypeId) (i:TypeInfo) (z:Value) (size bytes:Nat) (ht:P.underlying t=some (.slice e)) (hi:P.info? e=some i) (hz:i.zero=some z)
  (hsize:i.size=size) (hby:i.bytes=bytes) (hzs:z.cells.size=size) (hsz:0<size)
  (v:Value) (n:Nat) (xs:List Value) (hs:a.eval s=v) (hown:w.ownsRow base e size v n xs)
  (B:Nat) (A:Option Addr) (m c:Nat) (news:List Value) (hx:a.eval x= .slice A m c) (hr:Rd w B size A m news) (h1:∀ u∈news,u.oneCell'=true)
  (h63:n+m≤maxLen) (hbytes:(n+m)*bytes≤140737488355328) (hbase:base≤w.heap.size)
  (h:∀ A' c' w',w'.ownsRow base e size (.slice A' (n+m) c') (n+m) (xs++news)→w.grownBy w' v.ownBlock→((Value.slice A' (n+m) c').ownBlock=v.ownBlock∨(Value.slice A' (n+m) c').ownBlock=some w.heap.size)→K (a.put o.dst (.slice A' (n+m) c')) w'):
  if Region.wanted o (yielded ops a.tmps)=true then Oper.wp P o a w K Q else E:=by
 have hw:Region.wanted o (yielded ops a.tmps)=true:=by simp[Region.wanted,hgd]
 rw[if_pos hw];obtain⟨v',w',hrun,h2,h3,h4⟩:=Dzf (P:=P) w base t o.type e i z size bytes ht hi hz hsize hby hzs hsz v n xs hown B A m c news hr h1 h63 hbytes hbase;obtain⟨A',c',rfl⟩:=Az1 h2;unfold Oper.wp execOp;simp only[ho,resolve,invoke,builtin,Sem.run_bind,Sem.run_pure,Result.andThen_ok,List.map_toArray,List.map_cons,List.map_nil,hs,hx,hrun];exact h A' c' w' h2 h3 h4
end
def Czf (id:Nat):Code→Option Code
 | .region i ops d=>if i=id then some (.region i ops d) else none
 | .seq a b=>match Czf id a with
   | some c=>some c
   | none=>Czf id b
 | .loop c=>Czf id c
 | .block _ c=>Czf id c
 | .scope c=>Czf id c
 | .cond _ a b=>match Czf id a with
   | some c=>some c
   | none=>Czf id b
 | _=>none
section
variable {P:Program} {ops:Array Oper} {Q:Exit→Act→World→Prop} {md:Region.Mode}
theorem Hz6 {listed:Array Bool} (hord:∀ (i:Nat) (o:Oper),ops[i]? =some o→∀ e∈o.after,Region.binds md e=true→e.on<i) (h:Region.ready md ops listed=[]):∀ i,i<ops.size→listed.getD i true=true:=by
 intro i
 induction i using Nat.strongRecOn with
 | ind i ih=>
   intro hi;cases hl:listed.getD i true with
   | true=>rfl
   | false=>
     exfalso;have:i∈Region.ready md ops listed:=by
      unfold Region.ready;refine List.mem_filter.2 ⟨List.mem_range.2 hi,?_⟩;obtain⟨o,ho⟩:∃ o,ops[i]? =some o:=⟨_,Array.getElem?_eq_getElem hi⟩;rw[hl,ho];simp only[Bool.not_false,Bool.true_and,Option.map_some,Option.getD_some];rw[Array.all_eq_true_iff_forall_mem];intro e he;cases hbd:Region.binds md e with
      | false=>simp
      | true=>
      have h1:=hord i o ho e he hbd;have h2:=ih e.on h1 (by omega);have h3:listed.getD e.on false=true:=by
       rw[Array.getD_eq_getD_getElem?] at h2 ⊢;cases hx:listed[e.on]? with
       | none=>
         exfalso;rw[Array.getD_eq_getD_getElem?] at hl;cases hy:listed[i]? with
         | none=>rw[hy] at hl;simp at hl
         | some b=>
           have:=(Array.getElem?_eq_some_iff.1 hy).1;have:=Array.getElem?_eq_none_iff.1 hx;omega
       | some b=>rw[hx] at h2;simpa using h2
      rw[h3];simp
     rw[h] at this;cases this
theorem Mzg (I:Array Bool→Act→World→Prop) (hord:∀ (i:Nat) (o:Oper),ops[i]? =some o→∀ e∈o.after,Region.binds md e=true→e.on<i)
  (hstep:∀ (i:Nat) (o:Oper),ops[i]? =some o→∀ listed a w,listed.getD i true=false→(o.after.all fun e=> !Region.binds md e || listed.getD e.on false)=true→I listed a w→
    ∀ K:Act→World→Prop,(∀ a w,I (listed.setIfInBounds i true) a w→K a w)→if Region.wanted o (yielded ops a.tmps)=true then Oper.wp P o a w K Q else K (a.put o.dst undef) w)
  (hend:∀ listed a w,(∀ i,i<ops.size→listed.getD i true=true)→I listed a w→Q .normal a w):
  ∀ (fuel:Nat) (listed:Array Bool) (a:Act) (w:World),Dzh listed≤fuel→I listed a w→wpAny P md ops Q fuel listed a w:=by
 intro fuel
 induction fuel with
 | zero=>
   intro listed a w hu hI;have hr:Region.ready md ops listed=[]:=by
    cases hr:Region.ready md ops listed with
    | nil=>rfl
    | cons i r=>
      obtain⟨o,ho,h1,h2⟩:=Ezn (md:=md) (ops:=ops) (listed:=listed) (i:=i) (by rw[hr];simp);have:=Dz2 h1;omega
   exact⟨hr,hend _ _ _ (Hz6 hord hr) hI⟩
 | succ fuel ih=>
   intro listed a w hu hI;refine⟨fun hr=>hend _ _ _ (Hz6 hord hr) hI,fun i hi=>?_⟩;obtain⟨o,ho,h1,h2⟩:=Ezn hi;refine wpOp_step ho fun K' hK'=>?_
   refine hstep i o ho listed a w h1 h2 hI K' fun a' w' hI'=>hK' _ _ (ih _ _ _ ?_ hI')
   have:=Dz2 h1;omega
theorem Azj {id:Nat} {a:Act} {w:World} (I:Array Bool→Act→World→Prop) (hm:P.follows .mixedOrders=true) (hord:∀ (i:Nat) (o:Oper),ops[i]? =some o→∀ e∈o.after,Region.binds .any e=true→e.on<i)
  (h0:I (Array.replicate ops.size false) a w.drew)
  (hstep:∀ (i:Nat) (o:Oper),ops[i]? =some o→∀ listed a w,listed.getD i true=false→(o.after.all fun e=> !Region.binds .any e || listed.getD e.on false)=true→I listed a w→
    ∀ K:Act→World→Prop,(∀ a w,I (listed.setIfInBounds i true) a w→K a w)→if Region.wanted o (yielded ops a.tmps)=true then Oper.wp P o a w K Q else K (a.put o.dst undef) w)
  (hend:∀ listed a w,(∀ i,i<ops.size→listed.getD i true=true)→I listed a w→Q .normal a w):(Code.region id ops true).wp P Q a w:=
 wp_region_any hm (Mzg I hord hstep hend _ _ _ _ (Ezt _) h0)
def Tzf (ops:Array Oper):Bool:=(List.range ops.size).all fun i=>match ops[i]? with
 | some o=>o.after.all fun e=> !Region.binds .any e || decide (e.on<i)
 | none=>true
theorem Czi (h:Tzf ops=true):∀ (i:Nat) (o:Oper),ops[i]? =some o→∀ e∈o.after,Region.binds .any e=true→e.on<i:=fun i o ho e he hb=>by
 have hi:i<ops.size:=(Array.getElem?_eq_some_iff.1 ho).1;have:=(List.all_eq_true.1 h) i (List.mem_range.2 hi);rw[ho] at this;have:=(Array.all_eq_true_iff_forall_mem.1 this) e he;rw[hb] at this
 simpa using this
end
end Go.Proofs.YtdjamdbamkhblacGreatDoor
