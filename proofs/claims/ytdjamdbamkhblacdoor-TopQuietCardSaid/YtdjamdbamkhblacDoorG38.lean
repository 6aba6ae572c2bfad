/- The walk of keep.Acts: raw things become acts. No condition. A region that draws its order, whose operations are quiet but for a tail that waits for all: one walk. No condition. slices.Equal at nodes, strings, ends, of two slices that hold the same: true. By an AI agent (xeq.py). slices.Equal at integers, of two slices that hold the same: true. The walk of the machine's loads and stores: no condition. -/
import Derived.Test.YtdjamdbamkhblacDoorG37
import Derived.StillTail
import Derived.Deep.RegionLaw
set_option maxHeartbeats 4000000
namespace Go.Proofs.YtdjamdbamkhblacDoor
open Go.RowKit
set_option linter.unusedVariables false
set_option linter.unusedSimpArgs false
theorem Lzc (c:Int) (W:World):(W.alloc (.cells #[.string ⟨#[102]⟩, .string ⟨#[103]⟩, .string ⟨#[100,101,118]⟩] 9)).cell? ⟨W.heap.size,pick c 3,none⟩=some (.string (Fzn c)):=by
 have hB:=Blk.new W 9 #[.string ⟨#[102]⟩, .string ⟨#[103]⟩, .string ⟨#[100,101,118]⟩];have h3:=Bz5 c (m:=3) (by omega);unfold Fzn;by_cases h0:pick c 3=0
 ·rw[if_pos h0,h0];exact hB.cell 0
 by_cases h1:pick c 3=1
 ·rw[if_neg h0,if_pos h1,h1];exact hB.cell 1
 ·have h2:pick c 3=2:=by omega
  rw[if_neg h0,if_neg h1,h2];exact hB.cell 2
theorem RowA.nil {w W:World} (h:Below w.heap.size w W):RowA w W none 0 []:=⟨World.ownsRow_nil _ _ _ _,h⟩
theorem Kzt (l:List Ins) (k:Nat) (h:k<l.length):(l.take (k+1)).map actI=(l.take k).map actI++ [actI l[k]]:=by
 rw[List.take_succ_eq_append_getElem h,List.map_append];rfl
set_option maxRecDepth 100000 in
theorem Szp (A:Option Addr) (c m:Nat) (l:List Ins) (w:World) (hr:RdI w w.heap.size A l) (hwf:∀ i∈l,i.wf) (hl:l.length≤maxLen) (hm:m≤1000):
  Calls Tryd.prog 15 #[.slice A l.length c, .int .i64 (m:Int)] w fun e w'=>∃ A' c',e= .returned (.slice A' (Jz0 l m).length c')∧RowA w w' A' c' (Jz0 l m):=by
 have HRD:=Lib.hid hr;have HWF:=Lib.hid hwf;have hl':(l.length:Int)≤9223372036854775807:=by unfold maxLen at hl;omega
 clear hr hwf hl;go_enter Tryd.func15,Tryd.ntmps15;go_wp2_with fail;go_loopw [5,6] (fun V i wr=>Cnt (min l.length m) i fun k=>∃ A c,V= .slice A k c∧RowA w wr A c ((l.take k).map actI)) (fun _ i _=>min l.length m - (intOf i).toNat)
 case atStart=>exact⟨0,Nat.zero_le _,rfl,none,0,rfl,RowA.nil (Below.refl _ _)⟩
 case round=>
  obtain⟨k,hk,rfl,A1,c1,rfl,h1⟩:=hrel;by_cases hlt:k<min l.length m
  ·have hkl:k<l.length:=by omega
   have t1:(k:Int)<(l.length:Int):=by omega
   have t2:(k:Int)<(m:Int):=by omega
   obtain⟨b,o,rfl,hb,hcell⟩:=HRD.out (by omega);obtain⟨c0,c1',c2,c3⟩:=hcell k hkl;obtain⟨r,hr⟩:∃ r,r=l[k]:=⟨_,rfl⟩;have hrw:r.wf:=by rw[hr];exact HWF.out _ (List.getElem_mem hkl)
   have hsu:=Kzt l k hkl;have hpl:((l.take k).map actI).length=k:=by simp;omega
   rw[←hr] at c0 c1' c2 c3 hsu;have hbw:=Nat.lt_of_lt_of_le hb h1.be.size;have c0:=(h1.be.cell (p:=⟨b,o+k*4,none⟩) hb).trans c0;have c1':=(h1.be.cell (p:=⟨b,o+k*4+1,none⟩) hb).trans c1';have c2:=(h1.be.cell (p:=⟨b,o+k*4+2,none⟩) hb).trans c2;have c3:=(h1.be.cell (p:=⟨b,o+k*4+3,none⟩) hb).trans c3;have hba:=(Below.refl wr.heap.size wr).alloc (Nat.le_refl _) (.cells #[.int .i64 r.op, .int .i64 r.a, .int .i64 r.b, .int .i64 r.c] 23);have HR0:=Lib.hid (Blk.new wr 23 #[.int .i64 r.op, .int .i64 r.a, .int .i64 r.b, .int .i64 r.c]);obtain⟨L,hL⟩:∃ L,L=(l.take k).map actI:=⟨_,rfl⟩;rw[←hL] at h1 hsu hpl;have HSU:=Lib.hid hsu;have HPL:=Lib.hid hpl;have HRW:=Lib.hid hrw;have H1:=Lib.hid (h1.below hba);clear hsu hpl h1 hr hrw hcell hL hba;go_upto_region 6 with fail
   refine(show ∀ W:World,Blk W wr.heap.size 23 #[.int .i64 r.op, .int .i64 r.a, .int .i64 r.b, .int .i64 r.c]→RowA w W A1 c1 L→Code.wp _ _ _ _ W from ?_) _ HR0.out H1.out;clear HR0 H1 c0 c1' c2 c3 hbw hb;intro W1 hR h1;obtain⟨-,r1,r2,r3, -, -, -, -,rl⟩:=hR.a4;simp at r1 r2 r3;have HR:=Lib.hid hR;have H1:=Lib.hid h1;clear hR h1;have wf0:wf64 0:=⟨by decide,by decide⟩;have w0:=HRW.out.1;have wa:=HRW.out.2.1;have wb:=HRW.out.2.2.1;have wc:=HRW.out.2.2.2;have PA:Hid (∀ W:World,Calls Tryd.prog 13 #[.int .i64 r.a, .int .i64 3] W fun e w'=>e= .returned (.int .i64 (pick r.a 3:Nat))∧W=w'):=fun W=>Azd r.a 3 W wa.1 wa.2 (by omega) (by omega)
   have PB:Hid (∀ W:World,Calls Tryd.prog 13 #[.int .i64 r.b, .int .i64 6] W fun e w'=>e= .returned (.int .i64 (pick r.b 6:Nat))∧W=w'):=fun W=>Azd r.b 6 W wb.1 wb.2 (by omega) (by omega)
   have PC:Hid (∀ W:World,Calls Tryd.prog 13 #[.int .i64 r.c, .int .i64 3] W fun e w'=>e= .returned (.int .i64 (pick r.c 3:Nat))∧W=w'):=fun W=>Azd r.c 3 W wc.1 wc.2 (by omega) (by omega)
   have PK:Hid (∀ W:World,Calls Tryd.prog 13 #[.int .i64 r.op, .int .i64 30] W fun e w'=>e= .returned (.int .i64 (pick r.op 30:Nat))∧W=w'):=fun W=>Azd r.op 30 W w0.1 w0.2 (by omega) (by omega)
   have PD:Hid (∀ W:World,Calls Tryd.prog 13 #[.int .i64 r.c, .int .i64 30] W fun e w'=>e= .returned (.int .i64 (pick r.c 30:Nat))∧W=w'):=fun W=>Azd r.c 30 W wc.1 wc.2 (by omega) (by omega)
   have CD:Hid (∀ W:World,Calls Tryd.prog 12 #[.agg #[.int .i64 0, .int .i64 r.c, .int .i64 r.b, .int .i64 0]] W fun e w'=>e= .returned (.string (Fzu r.c r.b))∧Below W.heap.size W w'):=fun W=>Mz8 ⟨0,r.c,r.b,0⟩ ⟨wf0,wc,wb,wf0⟩ W
   have ka:pick r.a 3<3:=Bz5 _ (by omega);have kb:pick r.b 6<6:=Bz5 _ (by omega);have kc:pick r.c 3<3:=Bz5 _ (by omega);have kd:pick r.c 30<30:=Bz5 _ (by omega);have kk:pick r.op 30<30:=Bz5 _ (by omega);clear w0 wa wb wc HRW;refine Szu W1 wr.heap.size (pick r.a 3) (pick r.b 6) (pick r.c 3) r.a r.b r.c (Fzn r.c) W1 _ (Below.drewN' (Below.refl _ _) 1) rl r1 r2 r3 kc PA PB PC (Lzc r.c) ?_;intro listed W y8 y25 y26 y27 y28 y29 y30 y31 y32 y33 y34 y35 y36 y37 hall hJ;obtain⟨s,rfl,hs,hS⟩:=hJ.f14 (hall 14 (by decide));have hbW:=hJ.w;clear hJ hall PB PC r1 r2 r3 kc;obtain⟨r0,r1,r2,r3, -⟩:=(HR.out.below hbW rl).a4;simp at r0 r1 r2 r3;have rl:=Nat.lt_of_lt_of_le rl hbW.size;have HS:=Lib.hid hS;have HBW:=Lib.hid hbW;have HSG:=Lib.hid hs;clear hS hbW hs;obtain⟨K,hK⟩:∃ K,K=pick r.op 30:=⟨_,rfl⟩;rw[←hK] at PK kk;have HAI:Hid (actI r=if K<2 then ⟨2,0,0,0,Fzn r.c,noS⟩
 else if K=2 then ⟨4,0,0,0,Fzn r.c,noS⟩
 else if K<8 then ⟨5,(pick r.a 3:Nat),0,0,Fzn r.c,noS⟩
 else if K<10 then ⟨6,(pick r.a 3:Nat),(pick r.b 6:Nat),0,noS,noS⟩
 else if K<17 then ⟨7,(pick r.a 3:Nat),(pick r.b 6:Nat),1+(pick r.c 30:Nat),noS,noS⟩
 else if K<24 then ⟨8,(pick r.a 3:Nat),(pick r.b 6:Nat),0,noS,Fzu r.c r.b⟩
 else if K<26 then ⟨9,(pick r.a 3:Nat),0,0,noS,noS⟩
 else if K<29 then ⟨10,(pick r.a 3:Nat),0,0,noS,noS⟩
 else ⟨11,1+(pick r.a 3:Nat),0,0,noS,noS⟩):=by show _=_;unfold actI;rw[←hK];rfl
   generalize pick r.a 3=pa at*;generalize pick r.b 6=pb at*;generalize pick r.c 30=pd at*;generalize Fzn r.c=nm at*;generalize Fzu r.c r.b=dd at*;clear hK;go_upto_block 2 with(refine(PK.out _).mono ?_;rintro e w' ⟨rfl,rfl⟩)
   go_cut [] (fun wx=>Below W1.heap.size W1 wx∧Blk wx s 26 (actI r).cells)
   case first=>
    obtain⟨s0,s1,s2,s3,s4,s5, -, -, -, -, -,g0,g1,g2,g3,g4,g5, -, -, -, -, -,sl⟩:=HS.out.a11;simp at s0 s1 s2 s3 s4 s5;by_cases q0:K<2
    ·have hai:=HAI.out
     rw[if_pos q0] at hai;have HAX2:=Lib.hid hai;clear hai;have i0:(K:Int)<2:=by omega
     clear q0;go_wp2_with fail;go_meet;rw[HAX2.out];exact⟨((((((HBW.out.setCell HSG.out _).setCell HSG.out _).setCell HSG.out _).setCell HSG.out _).setCell HSG.out _).setCell HSG.out _),((((((HS.out.set_ 0 _).set_ 1 _).set_ 2 _).set_ 3 _).set_ 4 _).set_ 5 _)⟩
    by_cases q1:K=2
    ·have hai:=HAI.out
     rw[if_neg q0,if_pos q1] at hai;have HAX2:=Lib.hid hai;clear hai;have i0:¬ (K:Int)<2:=by omega
     have i1:((K:Int) == 2)=true:=by rw[beq_iff_eq];omega
     clear q0 q1;go_wp2_with fail;go_meet;rw[HAX2.out];exact⟨((((((HBW.out.setCell HSG.out _).setCell HSG.out _).setCell HSG.out _).setCell HSG.out _).setCell HSG.out _).setCell HSG.out _),((((((HS.out.set_ 0 _).set_ 1 _).set_ 2 _).set_ 3 _).set_ 4 _).set_ 5 _)⟩
    by_cases q2:K<8
    ·have hai:=HAI.out
     rw[if_neg q0,if_neg q1,if_pos q2] at hai;have HAX2:=Lib.hid hai;clear hai;have i0:¬ (K:Int)<2:=by omega
     have i1:¬ (K:Int)=2:=by omega
     have i2:(K:Int)<8:=by omega
     clear q0 q1 q2;go_wp2_with fail;go_meet;rw[HAX2.out];exact⟨((HBW.out.setCell HSG.out _).setCell HSG.out _),((HS.out.set_ 0 _).set_ 2 _)⟩
    by_cases q3:K<10
    ·have hai:=HAI.out
     rw[if_neg q0,if_neg q1,if_neg q2,if_pos q3] at hai;have HAX2:=Lib.hid hai;clear hai;have i0:¬ (K:Int)<2:=by omega
     have i1:¬ (K:Int)=2:=by omega
     have i2:¬ (K:Int)<8:=by omega
     have i3:(K:Int)<10:=by omega
     clear q0 q1 q2 q3;go_wp2_with fail;go_meet;rw[HAX2.out];exact⟨((HBW.out.setCell HSG.out _).setCell HSG.out _),((HS.out.set_ 0 _).set_ 4 _)⟩
    by_cases q4:K<17
    ·have hai:=HAI.out
     rw[if_neg q0,if_neg q1,if_neg q2,if_neg q3,if_pos q4] at hai;have HAX2:=Lib.hid hai;clear hai;have i0:¬ (K:Int)<2:=by omega
     have i1:¬ (K:Int)=2:=by omega
     have i2:¬ (K:Int)<8:=by omega
     have i3:¬ (K:Int)<10:=by omega
     have i4:(K:Int)<17:=by omega
     clear q0 q1 q2 q3 q4;go_wp2_with fail;refine(PD.out _).mono ?_;rintro e w' ⟨rfl,rfl⟩;go_wp2_with fail;go_meet;rw[HAX2.out];exact⟨(((HBW.out.setCell HSG.out _).setCell HSG.out _).setCell HSG.out _),(((HS.out.set_ 0 _).set_ 4 _).set_ 3 _)⟩
    by_cases q5:K<24
    ·have hai:=HAI.out
     rw[if_neg q0,if_neg q1,if_neg q2,if_neg q3,if_neg q4,if_pos q5] at hai;have HAX2:=Lib.hid hai;clear hai;have i0:¬ (K:Int)<2:=by omega
     have i1:¬ (K:Int)=2:=by omega
     have i2:¬ (K:Int)<8:=by omega
     have i3:¬ (K:Int)<10:=by omega
     have i4:¬ (K:Int)<17:=by omega
     have i5:(K:Int)<24:=by omega
     clear q0 q1 q2 q3 q4 q5;go_wp2_with fail;refine(CD.out _).mono ?_;rintro e w2 ⟨rfl,hb2⟩;have HS2:=Lib.hid (HS.out.below hb2 HS.out.lt);have HBW2:=Lib.hid (HBW.out.trans (hb2.mono HBW.out.size));clear s0 s1 s2 s3 s4 s5 g0 g1 g2 g3 g4 g5 sl hb2;obtain⟨s0,s1,s2,s3,s4,s5, -, -, -, -, -,g0,g1,g2,g3,g4,g5, -, -, -, -, -,sl⟩:=HS2.out.a11;simp at s0 s1 s2 s3 s4 s5;go_wp2_with fail;go_meet;rw[HAX2.out];exact⟨(((HBW2.out.setCell HSG.out _).setCell HSG.out _).setCell HSG.out _),(((HS2.out.set_ 0 _).set_ 4 _).set_ 5 _)⟩
    by_cases q6:K<26
    ·have hai:=HAI.out
     rw[if_neg q0,if_neg q1,if_neg q2,if_neg q3,if_neg q4,if_neg q5,if_pos q6] at hai;have HAX2:=Lib.hid hai;clear hai;have i0:¬ (K:Int)<2:=by omega
     have i1:¬ (K:Int)=2:=by omega
     have i2:¬ (K:Int)<8:=by omega
     have i3:¬ (K:Int)<10:=by omega
     have i4:¬ (K:Int)<17:=by omega
     have i5:¬ (K:Int)<24:=by omega
     have i6:(K:Int)<26:=by omega
     clear q0 q1 q2 q3 q4 q5 q6;go_wp2_with fail;go_meet;rw[HAX2.out];exact⟨((((((HBW.out.setCell HSG.out _).setCell HSG.out _).setCell HSG.out _).setCell HSG.out _).setCell HSG.out _).setCell HSG.out _),((((((HS.out.set_ 0 _).set_ 1 _).set_ 2 _).set_ 3 _).set_ 4 _).set_ 5 _)⟩
    by_cases q7:K<29
    ·have hai:=HAI.out
     rw[if_neg q0,if_neg q1,if_neg q2,if_neg q3,if_neg q4,if_neg q5,if_neg q6,if_pos q7] at hai;have HAX2:=Lib.hid hai;clear hai;have i0:¬ (K:Int)<2:=by omega
     have i1:¬ (K:Int)=2:=by omega
     have i2:¬ (K:Int)<8:=by omega
     have i3:¬ (K:Int)<10:=by omega
     have i4:¬ (K:Int)<17:=by omega
     have i5:¬ (K:Int)<24:=by omega
     have i6:¬ (K:Int)<26:=by omega
     have i7:(K:Int)<29:=by omega
     clear q0 q1 q2 q3 q4 q5 q6 q7;go_wp2_with fail;go_meet;rw[HAX2.out];exact⟨((((((HBW.out.setCell HSG.out _).setCell HSG.out _).setCell HSG.out _).setCell HSG.out _).setCell HSG.out _).setCell HSG.out _),((((((HS.out.set_ 0 _).set_ 1 _).set_ 2 _).set_ 3 _).set_ 4 _).set_ 5 _)⟩
    have hai:=HAI.out;rw[if_neg q0,if_neg q1,if_neg q2,if_neg q3,if_neg q4,if_neg q5,if_neg q6,if_neg q7] at hai;have HAX2:=Lib.hid hai;clear hai;have i0:¬ (K:Int)<2:=by omega
    have i1:¬ (K:Int)=2:=by omega
    have i2:¬ (K:Int)<8:=by omega
    have i3:¬ (K:Int)<10:=by omega
    have i4:¬ (K:Int)<17:=by omega
    have i5:¬ (K:Int)<24:=by omega
    have i6:¬ (K:Int)<26:=by omega
    have i7:¬ (K:Int)<29:=by omega
    clear q0 q1 q2 q3 q4 q5 q6 q7;go_wp2_with fail;refine(PA.out _).mono ?_;rintro e w' ⟨rfl,rfl⟩;go_wp2_with fail;go_meet;rw[HAX2.out];exact⟨((((((HBW.out.setCell HSG.out _).setCell HSG.out _).setCell HSG.out _).setCell HSG.out _).setCell HSG.out _).setCell HSG.out _),((((((HS.out.set_ 0 _).set_ 1 _).set_ 2 _).set_ 3 _).set_ 4 _).set_ 5 _)⟩
   case rest=>
    obtain⟨hbx,hX⟩:=hcut;obtain⟨x0,x1,x2,x3,x4,x5, -, -, -, -, -, -, -, -, -, -, -, -, -, -, -, -,xl⟩:=hX.a11;simp[Akt.cells] at x0 x1 x2 x3 x4 x5;have H2:=Lib.hid (H1.out.below hbx);obtain⟨y,hy⟩:∃ y,y=actI r:=⟨_,rfl⟩;rw[←hy] at x0 x1 x2 x3 x4 x5 HSU;clear hbx hX H1 hy;go_wp2_with (at_builtin;(refine Szo (l:=L) [y] H2.out rfl (.tmp 102) (.tmp 104) rfl ?vs rfl rfl ?cs ?len ?_);(case vs=>(show Value.slice _ k _=_;rw[HPL.out]));(case cs=>rfl);(case len=>(rw[HPL.out];simp;omega));intro A2 c2 W3 h2);refine⟨⟨k+1,by omega,by go_num,A2,c2,by simp[HPL.out],by rw[HSU.out];exact h2⟩,by simp[intOf];omega⟩
  ·have hkl:k≤l.length:=by omega
   have hkm:(l.take k).map actI=Jz0 l m:=by
    unfold Jz0
    congr 1
    have:k=min l.length m:=by omega
    subst this;rw[Nat.min_comm, ←List.take_take,List.take_length]
   have hln:((l.take k).map actI).length=k:=by simp;omega
   rw[hkm] at h1 hln;have H1:=Lib.hid h1;have HLN:=Lib.hid hln;have HC:(¬ (k:Int)<(l.length:Int))∨((k:Int)<(l.length:Int)∧¬ (k:Int)<(m:Int)):=by omega
   clear h1 hkm hln hlt hk;rcases HC with t1|⟨t1,t2⟩
   all_goals
    go_wp2_with fail;go_ret;exact⟨A1,c1,by rw[HLN.out];rfl,H1.out⟩
section
variable {P:Program} {ops:Array Oper} {C:World→Prop} {md:Region.Mode}
end
theorem Rzt (A A':Option Addr) (c c':Nat) (l:List Nod) (w:World) (hr:RdD w w.heap.size A l) (hr':RdD w w.heap.size A' l) (hl:l.length≤maxLen):
  Calls Tryd.prog 19 #[.slice A l.length c, .slice A' l.length c'] w fun e w'=>e= .returned (.bool true)∧∃ n,w'=w.drewN n:=by
 unfold maxLen at hl;go_enter Tryd.func19,Tryd.ntmps19;go_wp2;go_loopw [13] (fun i wr=>Cnt l.length i fun _=>∃ n,wr=w.drewN n) (fun i _=>l.length - (intOf i).toNat)
 case atStart=>exact⟨0,Nat.zero_le _,rfl,0,rfl⟩
 case round=>
  obtain⟨k,hk,rfl,n,rfl⟩:=hrel;by_cases hlt:k<l.length
  ·obtain⟨b,o,rfl,hbB,hcell⟩:=hr (by omega)
   obtain⟨b',o',rfl,hbB',hcell'⟩:=hr' (by omega);obtain⟨c0,c1,c2,c3⟩:=hcell k hlt;obtain⟨d0,d1,d2,d3⟩:=hcell' k hlt;clear hr hr' hcell hcell';generalize l[k]=z at*;go_wp2;go_quiet (fail);go_wp2;exact⟨⟨k+1,by omega,by go_num,_,rfl⟩,by simp[intOf];omega⟩
  ·go_wp2
   go_ret;exact⟨rfl,n,rfl⟩
theorem Rzu (A A':Option Addr) (c c':Nat) (l:List ByteArray) (w:World) (hr:RdS w w.heap.size A l) (hr':RdS w w.heap.size A' l) (hl:l.length≤maxLen):
  Calls Tryd.prog 20 #[.slice A l.length c, .slice A' l.length c'] w fun e w'=>e= .returned (.bool true)∧∃ n,w'=w.drewN n:=by
 unfold maxLen at hl;go_enter Tryd.func20,Tryd.ntmps20;go_wp2;go_loopw [13] (fun i wr=>Cnt l.length i fun _=>∃ n,wr=w.drewN n) (fun i _=>l.length - (intOf i).toNat)
 case atStart=>exact⟨0,Nat.zero_le _,rfl,0,rfl⟩
 case round=>
  obtain⟨k,hk,rfl,n,rfl⟩:=hrel;by_cases hlt:k<l.length
  ·obtain⟨b,o,rfl,hbB,hcell⟩:=hr (by omega)
   obtain⟨b',o',rfl,hbB',hcell'⟩:=hr' (by omega);have c0:=hcell k hlt;have d0:=hcell' k hlt;clear hr hr' hcell hcell';generalize l[k]=z at*;go_wp2;go_quiet (fail);go_wp2;exact⟨⟨k+1,by omega,by go_num,_,rfl⟩,by simp[intOf];omega⟩
  ·go_wp2
   go_ret;exact⟨rfl,n,rfl⟩
theorem Rzr (A A':Option Addr) (c c':Nat) (l:List Opn) (w:World) (hr:RdE w w.heap.size A l) (hr':RdE w w.heap.size A' l) (hl:l.length≤maxLen):
  Calls Tryd.prog 38 #[.slice A l.length c, .slice A' l.length c'] w fun e w'=>e= .returned (.bool true)∧∃ n,w'=w.drewN n:=by
 unfold maxLen at hl;go_enter Tryd.func38,Tryd.ntmps38;go_wp2;go_loopw [13] (fun i wr=>Cnt l.length i fun _=>∃ n,wr=w.drewN n) (fun i _=>l.length - (intOf i).toNat)
 case atStart=>exact⟨0,Nat.zero_le _,rfl,0,rfl⟩
 case round=>
  obtain⟨k,hk,rfl,n,rfl⟩:=hrel;by_cases hlt:k<l.length
  ·obtain⟨b,o,rfl,hbB,hcell⟩:=hr (by omega)
   obtain⟨b',o',rfl,hbB',hcell'⟩:=hr' (by omega);obtain⟨c0,c1,c2⟩:=hcell k hlt;obtain⟨d0,d1,d2⟩:=hcell' k hlt;clear hr hr' hcell hcell';generalize l[k]=z at*;go_wp2;go_quiet (fail);go_wp2;exact⟨⟨k+1,by omega,by go_num,_,rfl⟩,by simp[intOf];omega⟩
  ·go_wp2
   go_ret;exact⟨rfl,n,rfl⟩
theorem Rzs (A A':Option Addr) (c c':Nat) (l:List Int) (w:World) (hr:RdN w w.heap.size A l) (hr':RdN w w.heap.size A' l) (hl:l.length≤maxLen):
  Calls Tryd.prog 21 #[.slice A l.length c, .slice A' l.length c'] w fun e w'=>e= .returned (.bool true)∧∃ n,w'=w.drewN n:=by
 unfold maxLen at hl;go_enter Tryd.func21,Tryd.ntmps21;go_wp2;go_loopw [13] (fun i wr=>Cnt l.length i fun _=>∃ n,wr=w.drewN n) (fun i _=>l.length - (intOf i).toNat)
 case atStart=>exact⟨0,Nat.zero_le _,rfl,0,rfl⟩
 case round=>
  obtain⟨k,hk,rfl,n,rfl⟩:=hrel;by_cases hlt:k<l.length
  ·obtain⟨b,o,rfl,hbB,hcell⟩:=hr (by omega)
   obtain⟨b',o',rfl,hbB',hcell'⟩:=hr' (by omega);have c0:=hcell k hlt;have d0:=hcell' k hlt;clear hr hr' hcell hcell';generalize l[k]=z at*;go_wp2;go_quiet (fail);go_wp2;exact⟨⟨k+1,by omega,by go_num,_,rfl⟩,by simp[intOf];omega⟩
  ·go_wp2
   go_ret;exact⟨rfl,n,rfl⟩
def Czb (s:Mc) (i:Ins):Mc:=
 if rg s i.b<s.mem.length then (if i.op=8 then { s with regs:=s.regs.set i.a.toNat (s.mem.getD (rg s i.b) 0) } else { s with mem:=s.mem.set (rg s i.b) (rg s i.a) }) else s
def Mza (w0:World) (g:Nat) (C:Value) (s:Mc) (i:Ins) (en:Nat) (B T M:Value) (e:Ending) (w':World):Prop:=
 ∃ z:Int,Hid (z=if rg s i.b<s.mem.length then 0 else 3)∧e= .returned (.int .i64 z)∧Mach w0 w' g C (Czb s i) en B T M
theorem Izq (w0:World) (g en:Nat) (C B T M:Value) (s:Mc) (i:Ins) (w:World) (h:Mach w0 w g C s en B T M) (hs:McOk s) (hi:InsOk i) (ho:i.op=8∨i.op=9) (hml:s.mem.length≤1024):
  Calls Tryd.prog 181 #[.pointer (some ⟨g,0,none⟩),i.val] w (Mza w0 g C s i en B T M):=by
 obtain⟨o1,o2,a0,a7,b0,b7,c0,cw,c7⟩:=hi;obtain⟨o,a,b,c⟩:=i;simp only at o1 o2 a0 a7 b0 b7 c0 cw c7 ho ⊢;unfold Ins.val;simp only;obtain⟨bn,rfl⟩:∃ n:Nat,b=(n:Int):=⟨b.toNat,by omega⟩;obtain⟨an,rfl⟩:∃ n:Nat,a=(n:Int):=⟨a.toNat,by omega⟩;have hr8:=hs.regs;have hbn:(bn:Int)<8:=by omega
 have han:(an:Int)<8:=by omega
 have e1:=(h.blk.cell (4+bn)).trans (Fzd bn (by omega));have e2:=(h.blk.cell (4+an)).trans (Fzd an (by omega));have e3:=h.blk.cell 13;have hg:=h.blk.lt;have hg1:g<w.heap.size+1:=by omega
 have fz:=h.blk.frozen (4+an);obtain⟨A3,k3,hM⟩:=Az5 h.om;have hX:Hid (rg s (bn:Int)=s.regs.getD bn 0):=rfl;have hY:Hid (rg s (an:Int)=s.regs.getD an 0):=rfl;subst hM;simp[Azg] at e3;unfold natV at e1 e2;obtain⟨x,hx⟩:∃ x,s.regs.getD bn 0=x:=⟨_,rfl⟩;obtain⟨y,hy⟩:∃ y,s.regs.getD an 0=y:=⟨_,rfl⟩;rw[hx] at e1;rw[hy] at e2;have HX:=Lib.hid hx;have HY:=Lib.hid hy;clear hx hy;have H:=Lib.hid h;clear h;have hwg:w.heap.size≠g:=by omega
 have hwg':g≠w.heap.size:=by omega
 by_cases hlt:x<s.mem.length
 ·obtain⟨q,cap,hv,hq,hql⟩:=H.out.om.form (by omega)
  injection hv with hv1 hv2 hv3
  subst hv1 hv3;clear hv2;have e4:=H.out.om.cells (g:=q) rfl x _ (Kzd hlt);rw[add_plain,Nat.zero_add] at e4;unfold natV at e4;have hgq:g≠q:=fun e=>Az9 H.out.om H.out.blk (by decide) (by rw[e];rfl)
  have hqg:q≠g:=Ne.symm hgq;have hq1:q<w.heap.size+1:=by omega
  have hwq:w.heap.size≠q:=by omega
  have hwq':q≠w.heap.size:=by omega
  obtain⟨v,hvv⟩:∃ v,s.mem.getD x 0=v:=⟨_,rfl⟩;rw[hvv] at e4;have HV:=Lib.hid hvv;clear hvv;have HE:Hid ((if rg s (bn:Int)<s.mem.length then (0:Int) else 3)=0):=if_pos (by rw[hX.out,HX.out];exact hlt);have fq:w.frozen? ⟨q,x,none⟩=false:=by
   rcases H.out.om.2 with⟨h0,_⟩|⟨g',cap',cur,hv,_,hh,_⟩
   ·cases h0
   ·injection hv with e1
    injection e1 with e1
    injection e1 with e1
    subst e1;exact Blk.frozen (t:=3) (cs:=cur) hh x
  rcases ho with rfl|rfl
  ·have HT:Hid (Czb s ⟨8,(an:Int),(bn:Int),c⟩= { s with regs:=s.regs.set an v }):=by
    show _=_;unfold Czb;simp only;rw[hX.out,HX.out,if_pos hlt,HV.out];rfl
   go_enter Tryd.func181,Tryd.ntmps181;go_wp2;go_quiet (fail);go_wp2;go_region_law (first|fail)
   all_goals
    go_wp2;go_ret;exact⟨_,HE.out.symm,rfl,by rw[HT.out];exact(H.out.later (Below.drewN' ((Below.refl w.heap.size w).alloc (Nat.le_refl _) _) _)).setreg hr8 an (by omega) _⟩
  ·have HT:Hid (Czb s ⟨9,(an:Int),(bn:Int),c⟩= { s with mem:=s.mem.set x y }):=by
    show _=_;unfold Czb;simp only;rw[hX.out,HX.out,if_pos hlt,hY.out,HY.out];rfl
   go_enter Tryd.func181,Tryd.ntmps181;go_wp2;go_quiet (fail);go_wp2;go_region_law (first|fail)
   all_goals
    go_wp2;go_ret;exact⟨_,HE.out.symm,rfl,by rw[HT.out];exact(H.out.later (Below.drewN' ((Below.refl w.heap.size w).alloc (Nat.le_refl _) _) _)).setmem rfl x y⟩
 ·have hge:s.mem.length≤x:=by omega
  have HE:Hid ((if rg s (bn:Int)<s.mem.length then (0:Int) else 3)=3):=if_neg (by rw[hX.out,HX.out];exact hlt);have HT:Hid (Czb s ⟨o,(an:Int),(bn:Int),c⟩=s):=by
   show _=_;unfold Czb;simp only;rw[hX.out,HX.out,if_neg hlt]
  clear hlt;go_enter Tryd.func181,Tryd.ntmps181;go_wp2;go_quiet (fail);go_wp2;go_ret;exact⟨_,HE.out.symm,rfl,by rw[HT.out];exact H.out.later (Below.drewN' ((Below.refl w.heap.size w).alloc (Nat.le_refl _) _) _)⟩
end Go.Proofs.YtdjamdbamkhblacDoor
