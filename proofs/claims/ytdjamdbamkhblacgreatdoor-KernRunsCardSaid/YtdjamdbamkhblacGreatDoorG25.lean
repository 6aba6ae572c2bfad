/- The walk of the reference's readAt: what a reading end gives. Condition: the listed table, the run's contract (RunC). The walk of the reference's readAt at a file or a device. Condition: the listed table, the run's contract (RunC). -/
import Derived.Test.YtdjamdbamkhblacGreatDoorG24
set_option maxHeartbeats 8000000
set_option maxRecDepth 100000
namespace Go.Proofs.YtdjamdbamkhblacGreatDoor
open Go.RowKit
set_option linter.unusedVariables false
set_option linter.unusedSimpArgs false
attribute [local go_sem] After.cell
section
variable {B g:Nat} {a:KA} {k:Krn} {ms:List (Value × Value)} {es:List Value}
def Azd (B:Nat) (w:World) (g:Nat) (ms:List (Value × Value)) (es:List Value) (r:Krn × Ans) (e:Ending) (w':World):Prop:=
 e= .returned (.agg #[.int .i64 r.2.code, .int .i64 r.2.n, .string r.2.data])∧Fr B w w'∧∃ a',KS B w' g a' r.1 ms es
def Fzx (k:Krn) (p i:Nat) (many:Int):Krn × Ans:=if ((k.procs.getD p default).ends.getD i default).kind=3 then (k,ansE 3) else Bzu k p i many
theorem Ez4 (HR:RunC 102) {p i:Nat} (many:Int) (w:World) (h:KS B w g a k ms es) (hk:KOk k) (ht:Tab w) (hp:p<4) (hi:i<6)
  (hcs:((k.procs.getD p default).ends.getD i default).kind=3∨(many<1∨100<many)∨((k.procs.getD p default).ends.getD i default).kind=2) (h0:((k.procs.getD p default).ends.getD i default).kind≠0):
  Calls Tryz.prog 67 #[.pointer (some ⟨g,0,none⟩), .int .i64 (p:Int), .int .i64 (i:Int), .int .i64 many] w (Azd B w g ms es (Fzx k p i many)):=by
 have HRR:=Lib.hid HR;clear HR;have hpl:p<k.procs.length:=by rw[hk.l4];exact hp
 have e6:k.procs[p].ends.length=6:=by have:=Bzb hk hp;rwa [Az3 hpl] at this
 have hil:i<k.procs[p].ends.length:=by omega
 obtain⟨b4,be,c,hp',ha4,_,hb4,he,hbe,hbel,_,y0,y1⟩:=h.prcAt hpl (by omega);have HO:Hid (∀ W:World,Below w.heap.size w W→be<W.heap.size∧W.cell? ⟨be,i*3,none⟩=some (.int .i64 k.procs[p].ends[i].kind)∧W.cell? ⟨be,i*3+1,none⟩=some (.int .i64 k.procs[p].ends[i].node)∧W.cell? ⟨be,i*3+2,none⟩=some (.int .i64 k.procs[p].ends[i].pos)):=fun W hW=>(h.below hW).opn hpl hp' he hil
 have HEO:Hid (endOk k k.procs[p].ends[i]=true):=by
  have:=Cz6 hk (p:=p) (i:=i) hp;rw[Az3 hpl,Az3 hil] at this;exact this
 have HUN:Hid ((k.procs.getD p default).ends.getD i default=k.procs[p].ends[i]):=by
  show _=_;rw[Az3 hpl,Az3 hil]
 rw[HUN.out] at h0 hcs;obtain⟨x,hx⟩:∃ x,x=k.procs[p].ends[i]:=⟨_,rfl⟩;rw[←hx] at HO HEO HUN h0 hcs;have HCS:=Lib.hid hcs;clear hcs;have hb2:=(Az6 w (.cells #[.int .i64 0, .int .i64 0, .string ⟨#[]⟩] 36)).alloc (Az6 w _).size (.cells #[.int .i64 x.kind, .int .i64 x.node, .int .i64 x.pos] 54);have HN:Hid (Blk ((w.alloc (.cells #[.int .i64 0, .int .i64 0, .string ⟨#[]⟩] 36)).alloc (.cells #[.int .i64 x.kind, .int .i64 x.node, .int .i64 x.pos] 54)) (w.heap.size+1) 54 #[.int .i64 x.kind, .int .i64 x.node, .int .i64 x.pos]):=Blk.new' (by simp);have HA:=Lib.hid ((Blk.new w 36 #[.int .i64 0, .int .i64 0, .string ⟨#[]⟩]).alloc (.cells #[.int .i64 x.kind, .int .i64 x.node, .int .i64 x.pos] 54));have HB:=Lib.hid hb2;have H0:=Lib.hid h;have HK:=Lib.hid hk;have HT:=Lib.hid ht;have HE:=Lib.hid (show p<k.procs.length∧x=k.procs[p].ends[i] from ⟨hpl,hx⟩);have HES:=Lib.hid he;have HP:=Lib.hid (show p<k.procs.length∧p<es.length∧i<k.procs[p].ends.length from ⟨hpl,hp',hil⟩);have HA4:=Lib.hid ha4;obtain⟨c0,c1,c2,c3,c4⟩:=h.c5;rw[hk.l4,ha4] at c4;rw[e6] at y1;obtain⟨z0,z1,z2,z3⟩:=HO.out w (Below.refl _ _);have gl:=h.blk.lt;have hpi:(p:Int)<4:=by omega
 have hii:(i:Int)<6:=by omega
 clear h hk ht hx hb2 he ha4 e6;go_enter Tryz.func67,Tryz.ntmps67;go_upto_region 2 with fail
 generalize (w.alloc (.cells #[.int .i64 0, .int .i64 0, .string ⟨#[]⟩] 36)).alloc (.cells #[.int .i64 x.kind, .int .i64 x.node, .int .i64 x.pos] 54)=W2 at*;clear c0 c1 c2 c3 c4 z0 z1 z2 z3 gl y0 y1 hb4 hbe hbel;have HF:Hid (Fr B w W2):=Fr.low HB.out (Nat.le_of_lt H0.out.lt);have HLT:Hid (B≤w.heap.size):=Nat.le_of_lt H0.out.lt;obtain⟨r0,r1,r2⟩:W2.cell? ⟨w.heap.size,0,none⟩=some (.int .i64 0)∧W2.cell? ⟨w.heap.size,1,none⟩=some (.int .i64 0)∧W2.cell? ⟨w.heap.size,2,none⟩=some (.string ⟨#[]⟩):=⟨HA.out.cell 0,HA.out.cell 1,HA.out.cell 2⟩;obtain⟨-, -, -,rf0,rf1,rf2,rl⟩:=HA.out.a3;obtain⟨n0,n1,n2⟩:W2.cell? ⟨w.heap.size+1,0,none⟩=some (.int .i64 x.kind)∧W2.cell? ⟨w.heap.size+1,1,none⟩=some (.int .i64 x.node)∧W2.cell? ⟨w.heap.size+1,2,none⟩=some (.int .i64 x.pos):=⟨HN.out.cell 0,HN.out.cell 1,HN.out.cell 2⟩;have nl:=HN.out.lt;have HK2:=Lib.hid (H0.out.below HB.out);by_cases h3:x.kind=3
 ·have HV:Hid (Fzx k p i many=(k,ansE 3)):=by
   show _=_;unfold Fzx;rw[HUN.out,if_pos h3]
  have q3:(x.kind == 3)=true:=by rw[h3];rfl
  have HKF:=Lib.hid (HK2.out.ans3 HA.out HLT.out (.int .i64 3) (.int .i64 0) (.string ⟨#[]⟩));clear h3;go_wp2;refine bodyPost_ret (v:= .agg #[.int .i64 3, .int .i64 0, .string ⟨#[]⟩]) (by simp[results,Tryz.results67,go_sem,r0,r1,r2]) rfl ?_;unfold Azd;rw[HV.out];exact⟨rfl,HF.out.ans3 (Nat.le_refl _) HLT.out _ _ _,_,HKF.out.1⟩
 have HV:Hid (Fzx k p i many=Bzu k p i many):=by
  show _=_;unfold Fzx;rw[HUN.out,if_neg h3]
 have q3:(x.kind == 3)=false:=by rw[beq_eq_false_iff_ne];exact h3
 by_cases hm:many<1∨100<many
 ·have HV2:Hid (Bzu k p i many=(k,ansE 2)):=by
   show _=_;unfold Bzu;simp only;rw[if_pos hm]
  have HIN:=Lib.hid (Azi many 1 100 W2);rw[Azp hm] at HIN;have HKF:=Lib.hid (HK2.out.ans3 HA.out HLT.out (.int .i64 2) (.int .i64 0) (.string ⟨#[]⟩));clear hm h3;go_wp2_with fail;refine HIN.out.mono ?_;rintro e w1 ⟨rfl,rfl⟩;go_wp2;refine bodyPost_ret (v:= .agg #[.int .i64 2, .int .i64 0, .string ⟨#[]⟩]) (by simp[results,Tryz.results67,go_sem,r0,r1,r2]) rfl ?_;unfold Azd;rw[HV.out,HV2.out];exact⟨rfl,HF.out.ans3 (Nat.le_refl _) HLT.out _ _ _,_,HKF.out.1⟩
 have HM:=Lib.hid hm;have HIN:=Lib.hid (Azi many 1 100 W2);rw[Azl (by omega) (by omega)] at HIN;by_cases hk2:x.kind=2
 ·have q2:(x.kind == 2)=true:=by rw[hk2];rfl
  obtain⟨no0,no6,_⟩:=Fza HEO.out (.inl hk2);obtain⟨pi,hpi⟩:∃ pi:Nat,x.node=(pi:Int):=⟨x.node.toNat,by omega⟩;have l3:=HK.out.l3;have hpil:pi<k.pipes.length:=by omega
  obtain⟨b3,ha3,_,hb3⟩:=Azf HK2.out.cp.pipes (by omega);have hs:W2.cell? ⟨b3,pi,none⟩=some (.string k.pipes[pi]):=by
   obtain⟨b,o,hb,_,hc⟩:=HK2.out.krn.pipes (by omega);rw[ha3] at hb;cases hb
   have:=hc pi hpil
   rwa [Nat.zero_add] at this
  have HRK:Hid (Bzu k p i many=if empS k.pipes[pi] then (k,ansE (if hasE k.procs 3 x.node then 13 else 12)) else
    ({ k with pipes:=k.pipes.set pi (cutS k.pipes[pi] (min many.toNat k.pipes[pi].size) k.pipes[pi].size) },⟨0,(min many.toNat k.pipes[pi].size:Nat),cutS k.pipes[pi] 0 (min many.toNat k.pipes[pi].size)⟩)):=by
   show _=_;unfold Bzu;simp only;rw[HUN.out,if_neg hm,if_pos hk2];have:k.pipes.getD x.node.toNat noS=k.pipes[pi]:=by
    rw[hpi,Int.toNat_natCast,List.getD_eq_getElem?_getD,List.getElem?_eq_getElem hpil];rfl
   rw[this,hpi,Int.toNat_natCast]
  have HPI:=Lib.hid (show x.node=(pi:Int)∧pi<k.pipes.length from ⟨hpi,hpil⟩);obtain⟨s,hss⟩:∃ s,s=k.pipes[pi]:=⟨_,rfl⟩;rw[←hss] at hs HRK;have hsl:s.size≤20:=by
   have:=HK.out.pipes pi hpil;rw[←hss] at this;unfold Azu at this;simp at this;omega
  rw[hpi] at n1 HRK;obtain⟨c0,c1,c2,c3,c4⟩:=HK2.out.c5;rw[l3,ha3] at c3;have gl:=HK2.out.blk.lt;have HL3:=Lib.hid l3;have HA3:=Lib.hid ha3;have pi6:(pi:Int)<6:=by omega
  have HSS:=Lib.hid hss;clear hk2 hm h3 hpi l3 ha3 hss no0 no6;cases hem:empS s with
  | true=>
    have hl0:s.toList=[]:=by rw[Bz5] at hem;simpa using hem
    have hl1:s.toList.isEmpty=true:=by rw[hl0];rfl
    rw[hem,if_pos rfl] at HRK;clear hem;go_wp2_with fail;refine HIN.out.mono ?_;rintro e w1 ⟨rfl,rfl⟩;go_wp2_with fail;go_quiet (fail);have hWq:=Below.drewN' (Below.refl W2.heap.size W2) nq;have HAq:=Lib.hid (HA.out.drewN nq);have HNq:=Lib.hid (HN.out.drewN nq);have HKq:=Lib.hid (HK2.out.below hWq);have HFq:=Lib.hid (HF.out.drewN nq);clear hWq hs hb3 c0 c1 c2 c3 c4 gl r0 r1 r2 rf0 rf1 rf2 rl n0 n1 n2 nl;generalize W2.drewN nq=W3 at*;obtain⟨n0,n1,n2⟩:W3.cell? ⟨w.heap.size+1,0,none⟩=some (.int .i64 x.kind)∧W3.cell? ⟨w.heap.size+1,1,none⟩=some (.int .i64 (pi:Int))∧W3.cell? ⟨w.heap.size+1,2,none⟩=some (.int .i64 x.pos):=⟨HNq.out.cell 0,by rw[←HPI.out.1];exact HNq.out.cell 1,HNq.out.cell 2⟩;have nl:=HNq.out.lt;obtain⟨c0,c1,c2,c3,c4⟩:=HKq.out.c5;have gl:=HKq.out.blk.lt;have HH:Hid (∀ X:After W3,Calls Tryz.prog 61 #[.agg #[.slice a.a0 k.mods.length a.c0, .slice a.a1 k.mem.length a.c1, .slice a.a2 k.nodes.length a.c2, .slice a.a3 k.pipes.length a.c3, .slice a.a4 k.procs.length a.c4], .int .i64 3, .int .i64 (pi:Int)] X.w' fun e w'=>e= .returned (.bool (hasE k.procs 3 (pi:Int)))∧Below X.w'.heap.size X.w' w'):=
     fun X=>Cz4 _ _ _ _ _ _ _ _ _ _ (HKq.out.below X.h).krn.procs (by rw[HK.out.l4];unfold maxLen;omega)
    cases hh:hasE k.procs 3 (pi:Int) with
    | true=>
      rw[hh,if_pos rfl] at HRK;simp only[hh] at HH;clear hh;go_wp2;refine Azb (by kernel_rfl) (by kernel_rfl) ?_
      repeat (go_big_quiet_step ((rename_i X;exact Calls.calm (HH.out X))))
      refine wpQuiet_nil ?_;rintro w1 ⟨⟨_,hb1⟩,rfl⟩;rename_i w1;have HA4:=Lib.hid (HAq.out.below hb1 HAq.out.lt);have HK4:=Lib.hid (HKq.out.below hb1);have HF4:=Lib.hid (HFq.out.trans (Fr.low hb1 (Nat.le_of_lt HKq.out.lt)));have HKF:=Lib.hid (HK4.out.ans3 HA4.out HLT.out (.int .i64 13) (.int .i64 0) (.string ⟨#[]⟩));clear hb1 c0 c1 c2 c3 c4 gl n0 n1 n2 nl;obtain⟨r0,r1,r2⟩:w1.cell? ⟨w.heap.size,0,none⟩=some (.int .i64 0)∧w1.cell? ⟨w.heap.size,1,none⟩=some (.int .i64 0)∧w1.cell? ⟨w.heap.size,2,none⟩=some (.string ⟨#[]⟩):=⟨HA4.out.cell 0,HA4.out.cell 1,HA4.out.cell 2⟩;obtain⟨-, -, -,rf0,rf1,rf2,rl⟩:=HA4.out.a3;go_wp2;refine bodyPost_ret (v:= .agg #[.int .i64 13, .int .i64 0, .string ⟨#[]⟩]) (by simp[results,Tryz.results67,go_sem,r0,r1,r2]) rfl ?_;unfold Azd;rw[HV.out,HRK.out];exact⟨rfl,HF4.out.ans3 (Nat.le_refl _) HLT.out _ _ _,_,HKF.out.1⟩
    | false=>
      rw[hh,if_neg (by decide)] at HRK;simp only[hh] at HH;clear hh;go_wp2;refine Azb (by kernel_rfl) (by kernel_rfl) ?_
      repeat (go_big_quiet_step ((rename_i X;exact Calls.calm (HH.out X))))
      refine wpQuiet_nil ?_;rintro w1 ⟨⟨_,hb1⟩,rfl⟩;rename_i w1;have HA4:=Lib.hid (HAq.out.below hb1 HAq.out.lt);have HK4:=Lib.hid (HKq.out.below hb1);have HF4:=Lib.hid (HFq.out.trans (Fr.low hb1 (Nat.le_of_lt HKq.out.lt)));have HKF:=Lib.hid (HK4.out.ans3 HA4.out HLT.out (.int .i64 12) (.int .i64 0) (.string ⟨#[]⟩));clear hb1 c0 c1 c2 c3 c4 gl n0 n1 n2 nl;obtain⟨r0,r1,r2⟩:w1.cell? ⟨w.heap.size,0,none⟩=some (.int .i64 0)∧w1.cell? ⟨w.heap.size,1,none⟩=some (.int .i64 0)∧w1.cell? ⟨w.heap.size,2,none⟩=some (.string ⟨#[]⟩):=⟨HA4.out.cell 0,HA4.out.cell 1,HA4.out.cell 2⟩;obtain⟨-, -, -,rf0,rf1,rf2,rl⟩:=HA4.out.a3;go_wp2;refine bodyPost_ret (v:= .agg #[.int .i64 12, .int .i64 0, .string ⟨#[]⟩]) (by simp[results,Tryz.results67,go_sem,r0,r1,r2]) rfl ?_;unfold Azd;rw[HV.out,HRK.out];exact⟨rfl,HF4.out.ans3 (Nat.le_refl _) HLT.out _ _ _,_,HKF.out.1⟩
  | false=>
    have hl0:s.toList≠ []:=by rw[Bz5] at hem;simpa using hem
    have hl1:s.toList.isEmpty=false:=by rw[List.isEmpty_eq_false_iff];exact hl0
    rw[hem,if_neg (by decide)] at HRK;clear hem;obtain⟨mn,hmn⟩:∃ mn:Nat,many=(mn:Int):=⟨many.toNat,by have:=HM.out;omega⟩;have HMN:Hid (1≤mn∧mn≤100):=by have:=HM.out;show 1≤mn∧mn≤100;omega
    have hmn1:mn≤100:=HMN.out.2;rw[hmn,Int.toNat_natCast] at HRK;subst hmn;go_wp2_with fail;refine HIN.out.mono ?_;rintro e w1 ⟨rfl,rfl⟩;go_wp2_with fail;go_quiet (fail);have hWq:=Below.drewN' (Below.refl W2.heap.size W2) nq;have HAq:=Lib.hid (HA.out.drewN nq);have HNq:=Lib.hid (HN.out.drewN nq);have HKq:=Lib.hid (HK2.out.below hWq);have HFq:=Lib.hid (HF.out.drewN nq);have hs:=(hWq.cell (p:=⟨b3,pi,none⟩) hb3).trans hs;have hb32:b3<(W2.drewN nq).heap.size:=hb3;clear hWq hb3 c0 c1 c2 c3 c4 gl r0 r1 r2 rf0 rf1 rf2 rl n0 n1 n2 nl;generalize W2.drewN nq=W3 at*;obtain⟨c0,c1,c2,c3,c4⟩:=HKq.out.c5;rw[HL3.out,HA3.out] at c3;have gl:=HKq.out.blk.lt;obtain⟨n0,n1,n2⟩:W3.cell? ⟨w.heap.size+1,0,none⟩=some (.int .i64 x.kind)∧W3.cell? ⟨w.heap.size+1,1,none⟩=some (.int .i64 (pi:Int))∧W3.cell? ⟨w.heap.size+1,2,none⟩=some (.int .i64 x.pos):=⟨HNq.out.cell 0,by rw[←HPI.out.1];exact HNq.out.cell 1,HNq.out.cell 2⟩;have nl:=HNq.out.lt;have f0:W3.frozen? ⟨b3,pi,none⟩=false:=by
     have:=HKq.out.cp.pipes;rw[HA3.out] at this;exact this.frozenAt pi
    by_cases hgt:mn<s.size
    ·have hg1:(mn:Int)<(s.size:Int):=by omega
     have hg2:(mn:Int)≤(s.size:Int):=by omega
     have HGT:=Lib.hid hgt;rw[show min mn s.size=mn by omega] at HRK;clear hgt;go_upto_region 15 with fail
     simp only[Azz];obtain⟨d,hd⟩:∃ d,d=cutS s 0 mn:=⟨_,rfl⟩;have hdl:d.size=mn:=by rw[hd,Bz1 _ _ _ (by have:=HGT.out;omega)];omega
     rw[←hd] at HRK ⊢;have hds:(d.size:Int)≤(s.size:Int):=by have:=HGT.out;omega
     have HDL:=Lib.hid hdl;have HR2:Hid (Bzu k p i (mn:Int)=({ k with pipes:=k.pipes.set pi (cutS s d.size s.size) },⟨0,(d.size:Int),d⟩)):=by
      show _=_;rw[HRK.out,hdl]
     clear HRK;clear hd hdl HDL;go_still_tail 17,(by kernel_rfl);change wpList _ _ _ _ _ W3.drew;have HFIN:=Lib.hid ((HKq.out.below (Below.drewN' (Below.refl _ W3) 1)).pipeCell (i:=pi) HA3.out (cutS s d.size s.size));have HA5:=Lib.hid (HFIN.out.2.blk HAq.out (by decide));have HF5:=Lib.hid ((Fr.drewN HFq.out 1).trans HFIN.out.2);go_upto_region 16 with fail
     try simp only[Azz]
     refine(show ∀ W7:World,KS B W7 g a { k with pipes:=k.pipes.set pi (cutS s d.size s.size) } ms es→Blk W7 w.heap.size 36 #[.int .i64 0, .int .i64 0, .string ⟨#[]⟩]→Fr B w W7→Code.wp _ _ _ _ W7 from ?_) _ HFIN.out.1 HA5.out HF5.out;clear HFIN HA5 HF5 HKq HAq HNq HFq f0 c0 c1 c2 c3 c4 gl n0 n1 n2 nl hs hb32;intro W7 hK7 hA7 hF7;have HK7:=Lib.hid hK7;have HA7:=Lib.hid hA7;have HF7:=Lib.hid hF7;have HKF:=Lib.hid (HK7.out.ans3 HA7.out HLT.out (.int .i64 0) (.int .i64 (d.size:Int)) (.string d));clear hK7 hA7 hF7;obtain⟨r0,r1,r2⟩:W7.cell? ⟨w.heap.size,0,none⟩=some (.int .i64 0)∧W7.cell? ⟨w.heap.size,1,none⟩=some (.int .i64 0)∧W7.cell? ⟨w.heap.size,2,none⟩=some (.string ⟨#[]⟩):=⟨HA7.out.cell 0,HA7.out.cell 1,HA7.out.cell 2⟩;obtain⟨-, -, -,rf0,rf1,rf2,rl⟩:=HA7.out.a3;go_wp2;refine bodyPost_ret (v:= .agg #[.int .i64 0, .int .i64 (d.size:Int), .string d]) (by simp[results,Tryz.results67,go_sem,r0,r1,r2]) rfl ?_;unfold Azd;rw[HV.out,HR2.out];exact⟨rfl,HF7.out.ans3 (Nat.le_refl _) HLT.out _ _ _,_,HKF.out.1⟩
    ·have hg1:¬ (mn:Int)<(s.size:Int):=by omega
     rw[show min mn s.size=s.size by omega,Nz2] at HRK;clear hgt;go_upto_region 15 with fail
     obtain⟨d,rfl⟩:∃ d,d=s:=⟨_,rfl⟩;have HR2:Hid (Bzu k p i (mn:Int)=({ k with pipes:=k.pipes.set pi ((⟨#[]⟩:ByteArray)) },⟨0,(d.size:Int),d⟩)):=by
      show _=_;rw[HRK.out,Hzl]
     clear HRK;go_still_tail 17,(by kernel_rfl);change wpList _ _ _ _ _ W3.drew;have HFIN:=Lib.hid ((HKq.out.below (Below.drewN' (Below.refl _ W3) 1)).pipeCell (i:=pi) HA3.out ((⟨#[]⟩:ByteArray)));have HA5:=Lib.hid (HFIN.out.2.blk HAq.out (by decide));have HF5:=Lib.hid ((Fr.drewN HFq.out 1).trans HFIN.out.2);go_upto_region 16 with fail
     try simp only[Azz]
     refine(show ∀ W7:World,KS B W7 g a { k with pipes:=k.pipes.set pi ((⟨#[]⟩:ByteArray)) } ms es→Blk W7 w.heap.size 36 #[.int .i64 0, .int .i64 0, .string ⟨#[]⟩]→Fr B w W7→Code.wp _ _ _ _ W7 from ?_) _ HFIN.out.1 HA5.out HF5.out;clear HFIN HA5 HF5 HKq HAq HNq HFq f0 c0 c1 c2 c3 c4 gl n0 n1 n2 nl hs hb32;intro W7 hK7 hA7 hF7;have HK7:=Lib.hid hK7;have HA7:=Lib.hid hA7;have HF7:=Lib.hid hF7;have HKF:=Lib.hid (HK7.out.ans3 HA7.out HLT.out (.int .i64 0) (.int .i64 (d.size:Int)) (.string d));clear hK7 hA7 hF7;obtain⟨r0,r1,r2⟩:W7.cell? ⟨w.heap.size,0,none⟩=some (.int .i64 0)∧W7.cell? ⟨w.heap.size,1,none⟩=some (.int .i64 0)∧W7.cell? ⟨w.heap.size,2,none⟩=some (.string ⟨#[]⟩):=⟨HA7.out.cell 0,HA7.out.cell 1,HA7.out.cell 2⟩;obtain⟨-, -, -,rf0,rf1,rf2,rl⟩:=HA7.out.a3;go_wp2;refine bodyPost_ret (v:= .agg #[.int .i64 0, .int .i64 (d.size:Int), .string d]) (by simp[results,Tryz.results67,go_sem,r0,r1,r2]) rfl ?_;unfold Azd;rw[HV.out,HR2.out];exact⟨rfl,HF7.out.ans3 (Nat.le_refl _) HLT.out _ _ _,_,HKF.out.1⟩
 ·exfalso
  rcases HCS.out with h|h|h
  ·exact h3 h
  ·exact hm h
  ·exact hk2 h
end
end Go.Proofs.YtdjamdbamkhblacGreatDoor
namespace Go.Proofs.YtdjamdbamkhblacGreatDoor
open Go.RowKit
set_option linter.unusedVariables false
set_option linter.unusedSimpArgs false
attribute [local go_sem] After.cell
theorem Qzx (s:ByteArray) (q n:Nat) (h:q+n≤s.size):cutS (cutS s q s.size) 0 n=cutS s q (q+n):=by
 apply ByteArray.ext;apply Array.ext';have e:s.data.toList.length=s.size:=by simp
 show List.drop 0 (List.take n (List.drop q (List.take s.size s.data.toList)))=List.drop q (List.take (q+n) s.data.toList);rw[←e,List.take_length,List.drop_zero,List.take_drop]
section
variable {B g:Nat} {a:KA} {k:Krn} {ms:List (Value × Value)} {es:List Value}
theorem Kz4 (HR:RunC 102) {p i:Nat} (many:Int) (w:World) (h:KS B w g a k ms es) (hk:KOk k) (ht:Tab w) (hp:p<4) (hi:i<6)
  (h3:((k.procs.getD p default).ends.getD i default).kind≠3) (hk2:((k.procs.getD p default).ends.getD i default).kind≠2) (hm:¬ (many<1∨100<many)) (h0:((k.procs.getD p default).ends.getD i default).kind≠0):
  Calls Tryz.prog 67 #[.pointer (some ⟨g,0,none⟩), .int .i64 (p:Int), .int .i64 (i:Int), .int .i64 many] w (Azd B w g ms es (Fzx k p i many)):=by
 have HRR:=Lib.hid HR;clear HR;have hpl:p<k.procs.length:=by rw[hk.l4];exact hp
 have e6:k.procs[p].ends.length=6:=by have:=Bzb hk hp;rwa [Az3 hpl] at this
 have hil:i<k.procs[p].ends.length:=by omega
 obtain⟨b4,be,c,hp',ha4,_,hb4,he,hbe,hbel,_,y0,y1⟩:=h.prcAt hpl (by omega);have HO:Hid (∀ W:World,Below w.heap.size w W→be<W.heap.size∧W.cell? ⟨be,i*3,none⟩=some (.int .i64 k.procs[p].ends[i].kind)∧W.cell? ⟨be,i*3+1,none⟩=some (.int .i64 k.procs[p].ends[i].node)∧W.cell? ⟨be,i*3+2,none⟩=some (.int .i64 k.procs[p].ends[i].pos)):=fun W hW=>(h.below hW).opn hpl hp' he hil
 have HEO:Hid (endOk k k.procs[p].ends[i]=true):=by
  have:=Cz6 hk (p:=p) (i:=i) hp;rw[Az3 hpl,Az3 hil] at this;exact this
 have HUN:Hid ((k.procs.getD p default).ends.getD i default=k.procs[p].ends[i]):=by
  show _=_;rw[Az3 hpl,Az3 hil]
 rw[HUN.out] at h0 h3 hk2;obtain⟨x,hx⟩:∃ x,x=k.procs[p].ends[i]:=⟨_,rfl⟩;rw[←hx] at HO HEO HUN h0 h3 hk2;have hb2:=(Az6 w (.cells #[.int .i64 0, .int .i64 0, .string ⟨#[]⟩] 36)).alloc (Az6 w _).size (.cells #[.int .i64 x.kind, .int .i64 x.node, .int .i64 x.pos] 54);have HN:Hid (Blk ((w.alloc (.cells #[.int .i64 0, .int .i64 0, .string ⟨#[]⟩] 36)).alloc (.cells #[.int .i64 x.kind, .int .i64 x.node, .int .i64 x.pos] 54)) (w.heap.size+1) 54 #[.int .i64 x.kind, .int .i64 x.node, .int .i64 x.pos]):=Blk.new' (by simp);have HA:=Lib.hid ((Blk.new w 36 #[.int .i64 0, .int .i64 0, .string ⟨#[]⟩]).alloc (.cells #[.int .i64 x.kind, .int .i64 x.node, .int .i64 x.pos] 54));have HB:=Lib.hid hb2;have H0:=Lib.hid h;have HK:=Lib.hid hk;have HT:=Lib.hid ht;have HE:=Lib.hid (show p<k.procs.length∧x=k.procs[p].ends[i] from ⟨hpl,hx⟩);have HES:=Lib.hid he;have HP:=Lib.hid (show p<k.procs.length∧p<es.length∧i<k.procs[p].ends.length from ⟨hpl,hp',hil⟩);have HA4:=Lib.hid ha4;obtain⟨c0,c1,c2,c3,c4⟩:=h.c5;rw[hk.l4,ha4] at c4;rw[e6] at y1;obtain⟨z0,z1,z2,z3⟩:=HO.out w (Below.refl _ _);have gl:=h.blk.lt;have hpi:(p:Int)<4:=by omega
 have hii:(i:Int)<6:=by omega
 clear h hk ht hx hb2 he ha4 e6;go_enter Tryz.func67,Tryz.ntmps67;go_upto_region 2 with fail
 generalize (w.alloc (.cells #[.int .i64 0, .int .i64 0, .string ⟨#[]⟩] 36)).alloc (.cells #[.int .i64 x.kind, .int .i64 x.node, .int .i64 x.pos] 54)=W2 at*;clear c0 c1 c2 c3 c4 z0 z1 z2 z3 gl y0 y1 hb4 hbe hbel;have HF:Hid (Fr B w W2):=Fr.low HB.out (Nat.le_of_lt H0.out.lt);have HLT:Hid (B≤w.heap.size):=Nat.le_of_lt H0.out.lt;obtain⟨r0,r1,r2⟩:W2.cell? ⟨w.heap.size,0,none⟩=some (.int .i64 0)∧W2.cell? ⟨w.heap.size,1,none⟩=some (.int .i64 0)∧W2.cell? ⟨w.heap.size,2,none⟩=some (.string ⟨#[]⟩):=⟨HA.out.cell 0,HA.out.cell 1,HA.out.cell 2⟩;obtain⟨-, -, -,rf0,rf1,rf2,rl⟩:=HA.out.a3;obtain⟨n0,n1,n2⟩:W2.cell? ⟨w.heap.size+1,0,none⟩=some (.int .i64 x.kind)∧W2.cell? ⟨w.heap.size+1,1,none⟩=some (.int .i64 x.node)∧W2.cell? ⟨w.heap.size+1,2,none⟩=some (.int .i64 x.pos):=⟨HN.out.cell 0,HN.out.cell 1,HN.out.cell 2⟩;have nl:=HN.out.lt;have HK2:=Lib.hid (H0.out.below HB.out);have HV:Hid (Fzx k p i many=Bzu k p i many):=by
  show _=_;unfold Fzx;rw[HUN.out,if_neg h3]
 have q3:(x.kind == 3)=false:=by rw[beq_eq_false_iff_ne];exact h3
 have q2:(x.kind == 2)=false:=by rw[beq_eq_false_iff_ne];exact hk2
 have HM:=Lib.hid hm;have HIN:=Lib.hid (Azi many 1 100 W2);rw[Azl (by omega) (by omega)] at HIN;obtain⟨_,no0,no8,nk,p0,p1⟩:=Dzd HEO.out h0 hk2 h3;obtain⟨nd,hnd⟩:∃ nd:Nat,x.node=(nd:Int):=⟨x.node.toNat,by omega⟩;have l2:=HK.out.l2;have hnl:nd<k.nodes.length:=by omega
 have hgd:k.nodes.getD x.node.toNat default=k.nodes[nd]:=by rw[hnd,Int.toNat_natCast,Az3 hnl]
 have hno:Bz6 k.mods.length k.nodes[nd]=true:=by
  have:=Ezl HK.out (i:=nd) (by omega)
  rwa [Az3 hnl] at this
 rw[hgd] at nk;have HRK:Hid (Bzu k p i many=if k.nodes[nd].kind=2 then (match askK k k.nodes[nd].unit.toNat 256 with
  | none=>(k,ansE 14)
  | some (v,k')=>(k',⟨0,1,⟨#[UInt8.ofNat v]⟩⟩))
  else if k.nodes[nd].data.size≤x.pos.toNat then (k,ansE 12)
  else (setEnd k p i { x with pos:=x.pos+(min many.toNat (k.nodes[nd].data.size - x.pos.toNat):Nat) },⟨0,(min many.toNat (k.nodes[nd].data.size - x.pos.toNat):Nat),cutS k.nodes[nd].data x.pos.toNat (x.pos.toNat+min many.toNat (k.nodes[nd].data.size - x.pos.toNat))⟩)):=by
  show _=_;unfold Bzu;simp only;rw[HUN.out,if_neg hm,if_neg hk2,hgd];rfl
 obtain⟨y,hy⟩:∃ y,y=k.nodes[nd]:=⟨_,rfl⟩;rw[←hy] at HRK hno nk;obtain⟨b2,ha2,_,hb2⟩:=Azf HK2.out.cp.nodes (by omega);have e2:=HK2.out.c5.2.2.1;rw[ha2] at e2;obtain⟨bb,oo,hbb,_,hcc⟩:=HK2.out.krn.nodes (by omega);rw[ha2] at hbb;cases hbb
 have h4:=hcc nd hnl;rw[←hy,Nat.zero_add] at h4;rw[hnd] at n1;have HND:=Lib.hid hnd;have HNO:=Lib.hid hno;have HPI:=Lib.hid (show x.node=(nd:Int)∧nd<k.nodes.length from ⟨hnd,hnl⟩);have HR17:=Lib.hid (And.intro e2 (And.intro n1 (And.intro hb2 h4)));have gl:=HK2.out.blk.lt;clear hcc h4 hy hnd hgd hno e2 hb2 hm h3 hk2 l2;go_wp2_with fail;refine HIN.out.mono ?_;rintro e w1 ⟨rfl,rfl⟩;go_wp2_with fail;obtain⟨e2,n1',hb2,h4a,h4b,h4c,h4d⟩:=HR17.out;refine Oz0 W2 g b2 a.c2 k.nodes.length (w.heap.size+1) nd y W2 _ (Bz4 _) gl e2 nl n1' hb2 h4a h4b h4c h4d hnl ?_;clear e2 n1' hb2 h4a h4b h4c h4d HR17;intro listed W y11 y83 y84 y85 y86 y87 y88 y89 y90 hall hJ;obtain⟨s,rfl,hge,hbl⟩:=hJ.f9 (hall 9 (by decide));have hw:=hJ.w;have HAW:=Lib.hid (HA.out.below hw HA.out.lt);have HNW:=Lib.hid (HN.out.below hw HN.out.lt);have HKW:=Lib.hid (HK2.out.below hw);have HFW:=Lib.hid (HF.out.trans (Fr.low hw (Nat.le_of_lt HK2.out.lt)));have HBW:=Lib.hid (HB.out.trans (hw.mono HB.out.size));have HBL:=Lib.hid hbl;clear hJ hw hbl hge r0 r1 r2 rf0 rf1 rf2 rl n0 n1 n2 nl gl;obtain⟨r0,r1,r2⟩:W.cell? ⟨w.heap.size,0,none⟩=some (.int .i64 0)∧W.cell? ⟨w.heap.size,1,none⟩=some (.int .i64 0)∧W.cell? ⟨w.heap.size,2,none⟩=some (.string ⟨#[]⟩):=⟨HAW.out.cell 0,HAW.out.cell 1,HAW.out.cell 2⟩;obtain⟨-, -, -,rf0,rf1,rf2,rl⟩:=HAW.out.a3;obtain⟨n0,n1,n2⟩:W.cell? ⟨w.heap.size+1,0,none⟩=some (.int .i64 x.kind)∧W.cell? ⟨w.heap.size+1,1,none⟩=some (.int .i64 x.node)∧W.cell? ⟨w.heap.size+1,2,none⟩=some (.int .i64 x.pos):=⟨HNW.out.cell 0,HNW.out.cell 1,HNW.out.cell 2⟩;have nl:=HNW.out.lt;obtain⟨m0,m1,m2,m3⟩:W.cell? ⟨s,0,none⟩=some (.string y.name)∧W.cell? ⟨s,1,none⟩=some (.int .i64 y.kind)∧W.cell? ⟨s,2,none⟩=some (.string y.data)∧W.cell? ⟨s,3,none⟩=some (.int .i64 y.unit):=⟨HBL.out.cell 0,HBL.out.cell 1,HBL.out.cell 2,HBL.out.cell 3⟩;have sl:=HBL.out.lt;by_cases hd:y.kind=2
 ·have hd2:(y.kind == 2)=true:=by rw[hd];rfl
  obtain⟨u0,u1,_⟩:=Dzs HNO.out hd;obtain⟨u,hu⟩:∃ u:Nat,y.unit=(u:Int):=⟨y.unit.toNat,by omega⟩;rw[if_pos hd,hu,Int.toNat_natCast] at HRK;rw[hu] at m3;have HASK:=Lib.hid (Ezb HRR.out u 256 W HKW.out HK.out (HT.out.below HBW.out) (by omega) (by omega));clear hd u0 u1;go_wp2_with fail;refine HASK.out.mono ?_;rintro e w3 ⟨hf3,ht3,(⟨hn,rfl,hk3⟩|⟨v,k',a',hs,rfl,hk3,_⟩)⟩
  ·rw[hn] at HRK
   have HA3:=Lib.hid (HAW.out.tch ht3 (by decide));have HF3:=Lib.hid (HFW.out.trans hf3);have HKF:=Lib.hid (hk3.ans3 HA3.out HLT.out (.int .i64 14) (.int .i64 0) (.string ⟨#[]⟩));clear hn hf3 ht3 hk3 r0 r1 r2 rf0 rf1 rf2 rl n0 n1 n2 nl m0 m1 m2 m3 sl;obtain⟨r0,r1,r2⟩:w3.cell? ⟨w.heap.size,0,none⟩=some (.int .i64 0)∧w3.cell? ⟨w.heap.size,1,none⟩=some (.int .i64 0)∧w3.cell? ⟨w.heap.size,2,none⟩=some (.string ⟨#[]⟩):=⟨HA3.out.cell 0,HA3.out.cell 1,HA3.out.cell 2⟩;obtain⟨-, -, -,rf0,rf1,rf2,rl⟩:=HA3.out.a3;go_wp2;refine bodyPost_ret (v:= .agg #[.int .i64 14, .int .i64 0, .string ⟨#[]⟩]) (by simp[results,Tryz.results67,go_sem,r0,r1,r2]) rfl ?_;unfold Azd;rw[HV.out,HRK.out];exact⟨rfl,HF3.out.ans3 (Nat.le_refl _) HLT.out _ _ _,_,HKF.out.1⟩
  ·rw[hs] at HRK
   have HA3:=Lib.hid (HAW.out.tch ht3 (by decide));have HF3:=Lib.hid (HFW.out.trans hf3);have HK3:=Lib.hid hk3;clear hs hf3 ht3 hk3 r0 r1 r2 rf0 rf1 rf2 rl n0 n1 n2 nl m0 m1 m2 m3 sl;obtain⟨r0,r1,r2⟩:w3.cell? ⟨w.heap.size,0,none⟩=some (.int .i64 0)∧w3.cell? ⟨w.heap.size,1,none⟩=some (.int .i64 0)∧w3.cell? ⟨w.heap.size,2,none⟩=some (.string ⟨#[]⟩):=⟨HA3.out.cell 0,HA3.out.cell 1,HA3.out.cell 2⟩;obtain⟨-, -, -,rf0,rf1,rf2,rl⟩:=HA3.out.a3;have HR2:Hid (Bzu k p i many=(k',⟨0,1,ba [u8 ((v:Int) % 256).toNat]⟩)):=by
    show _=_;rw[←byte_of];exact HRK.out
   clear HRK;have ekc:((v:Int) % 256).toNat=v % 256:=by omega
   have kc:=Izj (Blk.new w3 5 #[.int .u8 ((v:Int) % 256)]) 1;rw[ekc] at kc HR2;have HAN:=Lib.hid (HK3.out.ans3 HA3.out HLT.out (.int .i64 0) (.int .i64 1) (.string (ba [u8 (v % 256)])));have HA5:Hid (Blk (((w3.setCell ⟨w.heap.size,0,none⟩ (.int .i64 0)).setCell ⟨w.heap.size,1,none⟩ (.int .i64 1)).setCell ⟨w.heap.size,2,none⟩ (.string (ba [u8 (v % 256)]))) w.heap.size 36 #[.int .i64 0, .int .i64 1, .string (ba [u8 (v % 256)])]):=((HA3.out.set_ 0 (.int .i64 0)).set_ 1 (.int .i64 1)).set_ 2 (.string (ba [u8 (v % 256)]));have HBA:=Lib.hid ((Below.refl (((w3.setCell ⟨w.heap.size,0,none⟩ (.int .i64 0)).setCell ⟨w.heap.size,1,none⟩ (.int .i64 1)).setCell ⟨w.heap.size,2,none⟩ (.string (ba [u8 (v % 256)]))).heap.size (((w3.setCell ⟨w.heap.size,0,none⟩ (.int .i64 0)).setCell ⟨w.heap.size,1,none⟩ (.int .i64 1)).setCell ⟨w.heap.size,2,none⟩ (.string (ba [u8 (v % 256)])))).alloc (Nat.le_refl _) (.cells #[.int .u8 ((v:Int) % 256)] 5));have HF5:=Lib.hid ((HF3.out.ans3 (Nat.le_refl _) HLT.out (.int .i64 0) (.int .i64 1) (.string (ba [u8 (v % 256)]))).new (Nat.le_of_lt HAN.out.1.lt) (.cells #[.int .u8 ((v:Int) % 256)] 5));have HA6:=HA5.out.alloc (.cells #[.int .u8 ((v:Int) % 256)] 5);obtain⟨g0,g1,g2⟩:((((w3.setCell ⟨w.heap.size,0,none⟩ (.int .i64 0)).setCell ⟨w.heap.size,1,none⟩ (.int .i64 1)).setCell ⟨w.heap.size,2,none⟩ (.string (ba [u8 (v % 256)]))).alloc (.cells #[.int .u8 ((v:Int) % 256)] 5)).cell? ⟨w.heap.size,0,none⟩=some (.int .i64 0)∧((((w3.setCell ⟨w.heap.size,0,none⟩ (.int .i64 0)).setCell ⟨w.heap.size,1,none⟩ (.int .i64 1)).setCell ⟨w.heap.size,2,none⟩ (.string (ba [u8 (v % 256)]))).alloc (.cells #[.int .u8 ((v:Int) % 256)] 5)).cell? ⟨w.heap.size,1,none⟩=some (.int .i64 1)∧((((w3.setCell ⟨w.heap.size,0,none⟩ (.int .i64 0)).setCell ⟨w.heap.size,1,none⟩ (.int .i64 1)).setCell ⟨w.heap.size,2,none⟩ (.string (ba [u8 (v % 256)]))).alloc (.cells #[.int .u8 ((v:Int) % 256)] 5)).cell? ⟨w.heap.size,2,none⟩=some (.string (ba [u8 (v % 256)])):=⟨HA6.cell 0,HA6.cell 1,HA6.cell 2⟩;have HG:=Lib.hid (And.intro g0 (And.intro g1 g2));clear ekc g0 g1 g2 HA6;go_wp2;obtain⟨g0,g1,g2⟩:=HG.out;refine bodyPost_ret (v:= .agg #[.int .i64 0, .int .i64 1, .string (ba [u8 (v % 256)])]) (by simp[results,Tryz.results67,go_sem,g0,g1,g2]) rfl ?_;unfold Azd;rw[HV.out,HR2.out];exact⟨rfl,HF5.out,_,HAN.out.1.below HBA.out⟩
 ·have hd2:(y.kind == 2)=false:=by rw[beq_eq_false_iff_ne];exact hd
  rw[if_neg hd] at HRK;by_cases hle:y.data.size≤x.pos.toNat
  ·rw[if_pos hle] at HRK
   have q1:(y.data.size:Int)≤x.pos:=by omega
   have HKF:=Lib.hid (HKW.out.ans3 HAW.out HLT.out (.int .i64 12) (.int .i64 0) (.string ⟨#[]⟩));clear hd hle;go_wp2;refine bodyPost_ret (v:= .agg #[.int .i64 12, .int .i64 0, .string ⟨#[]⟩]) (by simp[results,Tryz.results67,go_sem,r0,r1,r2]) rfl ?_;unfold Azd;rw[HV.out,HRK.out];exact⟨rfl,HFW.out.ans3 (Nat.le_refl _) HLT.out _ _ _,_,HKF.out.1⟩
  ·rw[if_neg hle] at HRK
   obtain⟨q,hq⟩:∃ q:Nat,x.pos=(q:Int):=⟨x.pos.toNat,by omega⟩;obtain⟨mn,hmn⟩:∃ mn:Nat,many=(mn:Int):=⟨many.toNat,by have:=HM.out;omega⟩;obtain⟨_,_,hds⟩:=Czb HNO.out nk hd;rw[hq,hmn,Int.toNat_natCast,Int.toNat_natCast] at HRK;rw[hq] at n2;rw[hq,Int.toNat_natCast] at hle;have hmn1:mn≤100:=by have:=HM.out;omega
   have HXP:=Lib.hid hq;have HMP:=Lib.hid (show 1≤mn by have:=HM.out;omega);subst hmn;have HHL:=Lib.hid hle;have q1:(q:Int)<(y.data.size:Int):=by omega
   have q1':(q:Int)≤(y.data.size:Int):=by omega
   have hq100:q≤100:=by omega
   clear hd hle hq p1 p0;go_upto_region 26 with fail
   simp only[Azz];obtain⟨d0,hd0⟩:∃ d0,d0=cutS y.data q y.data.size:=⟨_,rfl⟩;rw[←hd0];have hdl0:d0.size=y.data.size - q:=by rw[hd0,Bz1 _ _ _ (Nat.le_refl _)]
   obtain⟨b4',be',c',hp2,ha4',_,hb4,he2,_,hbe,_,_,y1⟩:=HKW.out.prcAt HP.out.1 (by have:=HP.out.2.2;omega);obtain⟨_,_,_,z3⟩:=HKW.out.opn HP.out.1 hp2 he2 HP.out.2.2;have c4:=HKW.out.c5.2.2.2.2;rw[HK.out.l4,ha4'] at c4;have e6:k.procs[p].ends.length=6:=by have:=Bzb HK.out hp;rwa [Az3 HP.out.1] at this
   rw[e6] at y1;have hfz:=HKW.out.cp.ends.at_ p HP.out.1 hp2;rw[he2] at hfz;have f2:=hfz.frozenAt (i*3+2);have gl:=HKW.out.blk.lt;clear hfz e6;have HD0:=Lib.hid (And.intro hd0 hdl0);clear hd0;by_cases hgt:mn<d0.size
   ·have hg1:(mn:Int)<(d0.size:Int):=by omega
    have hg2:(mn:Int)≤(d0.size:Int):=by omega
    have HGT:=Lib.hid hgt;clear hgt hdl0;go_upto_region 28 with fail
    simp only[Azz];obtain⟨d,hd⟩:∃ d,d=cutS d0 0 mn:=⟨_,rfl⟩;rw[←hd];have hdl:d.size=mn:=by rw[hd,Bz1 _ _ _ (by have:=HGT.out;omega)];omega
    have HR2:Hid (Bzu k p i (mn:Int)=(setEnd k p i { k.procs[p].ends[i] with pos:=(q:Int)+(d.size:Int) },⟨0,(d.size:Int),d⟩)):=by
     show _=_;have h1:=HD0.out;have h2:=HGT.out;have h3:min mn (y.data.size - q)=mn:=by omega
     rw[HRK.out,h3,hdl,HE.out.2,hd,h1.1,Qzx _ _ _ (by omega)]
    clear HRK hd;have hdb:(d.size:Int)≤100:=by omega
    clear hdl;go_still_tail 14,(by kernel_rfl);change wpList _ _ _ _ _ W.drew;have HFIN:=Lib.hid ((HKW.out.below (Below.drewN' (Below.refl _ W) 1)).endPos HP.out.1 hp2 he2 HP.out.2.2 ((q:Int)+(d.size:Int)));have HA5:=Lib.hid (HFIN.out.2.blk HAW.out (by decide));have HF5:=Lib.hid ((Fr.drewN HFW.out 1).trans HFIN.out.2);go_upto_region 29 with fail
    refine(show ∀ W7:World,KS B W7 g a (setEnd k p i { k.procs[p].ends[i] with pos:=(q:Int)+(d.size:Int) }) ms es→Blk W7 w.heap.size 36 #[.int .i64 0, .int .i64 0, .string ⟨#[]⟩]→Fr B w W7→Code.wp _ _ _ _ W7 from ?_) _ HFIN.out.1 HA5.out HF5.out;clear HFIN HA5 HF5 HKW HAW HNW HFW HBW HBL f2 c4 y1 z3 gl n0 n1 n2 nl m0 m1 m2 m3 sl hb4 hbe r0 r1 r2 rf0 rf1 rf2 rl;intro W7 hK7 hA7 hF7;have HK7:=Lib.hid hK7;have HA7:=Lib.hid hA7;have HF7:=Lib.hid hF7;have HKF:=Lib.hid (HK7.out.ans3 HA7.out HLT.out (.int .i64 0) (.int .i64 (d.size:Int)) (.string d));clear hK7 hA7 hF7;obtain⟨r0,r1,r2⟩:W7.cell? ⟨w.heap.size,0,none⟩=some (.int .i64 0)∧W7.cell? ⟨w.heap.size,1,none⟩=some (.int .i64 0)∧W7.cell? ⟨w.heap.size,2,none⟩=some (.string ⟨#[]⟩):=⟨HA7.out.cell 0,HA7.out.cell 1,HA7.out.cell 2⟩;obtain⟨-, -, -,rf0,rf1,rf2,rl⟩:=HA7.out.a3;go_wp2;refine bodyPost_ret (v:= .agg #[.int .i64 0, .int .i64 (d.size:Int), .string d]) (by simp[results,Tryz.results67,go_sem,r0,r1,r2]) rfl ?_;unfold Azd;rw[HV.out,HR2.out];exact⟨rfl,HF7.out.ans3 (Nat.le_refl _) HLT.out _ _ _,_,HKF.out.1⟩
   ·have hg1:¬ (mn:Int)<(d0.size:Int):=by omega
    have HGT:=Lib.hid hgt;clear hgt;go_upto_region 28 with fail
    obtain⟨d,rfl⟩:∃ d,d=d0:=⟨_,rfl⟩;have HR2:Hid (Bzu k p i (mn:Int)=(setEnd k p i { k.procs[p].ends[i] with pos:=(q:Int)+(d.size:Int) },⟨0,(d.size:Int),d⟩)):=by
     show _=_;have h1:=HD0.out;have h2:=HGT.out;have h4:=HHL.out;have h3:min mn (y.data.size - q)=d.size:=by omega
     have h5:q+d.size=y.data.size:=by omega
     rw[HRK.out,h3,HE.out.2,h5, ←h1.1]
    clear HRK;have hdb:(d.size:Int)≤100:=by omega
    clear hdl0;go_still_tail 14,(by kernel_rfl);change wpList _ _ _ _ _ W.drew;have HFIN:=Lib.hid ((HKW.out.below (Below.drewN' (Below.refl _ W) 1)).endPos HP.out.1 hp2 he2 HP.out.2.2 ((q:Int)+(d.size:Int)));have HA5:=Lib.hid (HFIN.out.2.blk HAW.out (by decide));have HF5:=Lib.hid ((Fr.drewN HFW.out 1).trans HFIN.out.2);go_upto_region 29 with fail
    refine(show ∀ W7:World,KS B W7 g a (setEnd k p i { k.procs[p].ends[i] with pos:=(q:Int)+(d.size:Int) }) ms es→Blk W7 w.heap.size 36 #[.int .i64 0, .int .i64 0, .string ⟨#[]⟩]→Fr B w W7→Code.wp _ _ _ _ W7 from ?_) _ HFIN.out.1 HA5.out HF5.out;clear HFIN HA5 HF5 HKW HAW HNW HFW HBW HBL f2 c4 y1 z3 gl n0 n1 n2 nl m0 m1 m2 m3 sl hb4 hbe r0 r1 r2 rf0 rf1 rf2 rl;intro W7 hK7 hA7 hF7;have HK7:=Lib.hid hK7;have HA7:=Lib.hid hA7;have HF7:=Lib.hid hF7;have HKF:=Lib.hid (HK7.out.ans3 HA7.out HLT.out (.int .i64 0) (.int .i64 (d.size:Int)) (.string d));clear hK7 hA7 hF7;obtain⟨r0,r1,r2⟩:W7.cell? ⟨w.heap.size,0,none⟩=some (.int .i64 0)∧W7.cell? ⟨w.heap.size,1,none⟩=some (.int .i64 0)∧W7.cell? ⟨w.heap.size,2,none⟩=some (.string ⟨#[]⟩):=⟨HA7.out.cell 0,HA7.out.cell 1,HA7.out.cell 2⟩;obtain⟨-, -, -,rf0,rf1,rf2,rl⟩:=HA7.out.a3;go_wp2;refine bodyPost_ret (v:= .agg #[.int .i64 0, .int .i64 (d.size:Int), .string d]) (by simp[results,Tryz.results67,go_sem,r0,r1,r2]) rfl ?_;unfold Azd;rw[HV.out,HR2.out];exact⟨rfl,HF7.out.ans3 (Nat.le_refl _) HLT.out _ _ _,_,HKF.out.1⟩
theorem Mz9 (HR:RunC 102) {p i:Nat} (many:Int) (w:World) (h:KS B w g a k ms es) (hk:KOk k) (ht:Tab w) (hp:p<4) (hi:i<6) (h0:((k.procs.getD p default).ends.getD i default).kind≠0):
  Calls Tryz.prog 67 #[.pointer (some ⟨g,0,none⟩), .int .i64 (p:Int), .int .i64 (i:Int), .int .i64 many] w (Azd B w g ms es (Fzx k p i many)):=by
 by_cases h3:((k.procs.getD p default).ends.getD i default).kind=3
 ·exact Ez4 HR many w h hk ht hp hi (.inl h3) h0
 by_cases hm:many<1∨100<many
 ·exact Ez4 HR many w h hk ht hp hi (.inr (.inl hm)) h0
 by_cases hk2:((k.procs.getD p default).ends.getD i default).kind=2
 ·exact Ez4 HR many w h hk ht hp hi (.inr (.inr hk2)) h0
 exact Kz4 HR many w h hk ht hp hi h3 hk2 hm h0
end
end Go.Proofs.YtdjamdbamkhblacGreatDoor
