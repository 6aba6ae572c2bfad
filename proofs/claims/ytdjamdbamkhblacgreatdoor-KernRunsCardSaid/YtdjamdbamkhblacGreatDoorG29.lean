/- The walk of the reference's DidOf. Condition: the listed table, the run's contract (RunC). By an AI agent (xrdo.py). The walk of the laws' comparison of two kernels that read the same: it answers true. The walk of the law KernDoes. Condition: the listed table. -/
import Derived.Test.YtdjamdbamkhblacGreatDoorG23
import Derived.Test.YtdjamdbamkhblacGreatDoorRByW
import Derived.Test.YtdjamdbamkhblacGreatDoorKFault
import Derived.Test.YtdjamdbamkhblacGreatDoorModOf
set_option maxHeartbeats 16000000
set_option maxRecDepth 100000
namespace Go.Proofs.YtdjamdbamkhblacGreatDoor
open Go.RowKit
set_option linter.unusedVariables false
set_option linter.unusedSimpArgs false
attribute [local go_sem] After.cell
def dupC (k:Krn) (m:Mod) (j:Nat):Int:=if (k.mods.take j).any (fun x=>x.name == m.name) then 7 else 0
theorem Nz3 {k:Krn} {m:Mod} {j:Nat} (hj:j<k.mods.length):dupC k m (j+1)=if k.mods[j].name == m.name then 7 else dupC k m j:=by
 unfold dupC;rw[←List.take_append_getElem hj,List.any_append];simp only[List.any_cons,List.any_nil,Bool.or_false];cases k.mods[j].name == m.name with
 | true=>simp
 | false=>simp
theorem Qzf (HR:RunC 102) (k:Krn) (a:KA) (kd xp xn xm:Int) (nm dt:ByteArray) (w:World) (hK:KrnAt w w.heap.size a k) (hS:k.small) (ht:Tab w) (hn:nm.size≤maxLen) (hd:dt.size≤maxLen):
  Calls Tryz.prog 10 #[.agg (a.cells k), .agg (⟨kd,xp,xn,xm,nm,dt⟩:Akt).cells] w (DoPost w k ⟨kd,xp,xn,xm,nm,dt⟩):=by
 show Calls _ _ #[.agg #[.slice a.a0 k.mods.length a.c0, .slice a.a1 k.mem.length a.c1, .slice a.a2 k.nodes.length a.c2, .slice a.a3 k.pipes.length a.c3, .slice a.a4 k.procs.length a.c4], .agg #[.int .i64 kd, .int .i64 xp, .int .i64 xn, .int .i64 xm, .string nm, .string dt]] _ _;have HR':=Lib.hid HR;have HK0:=Lib.hid hK;have HS0:=Lib.hid hS;have HT0:=Lib.hid ht;have HN:=Lib.hid hn;have HDT:=Lib.hid hd;have HTL:=Lib.hid (show 0<w.heap.size from ht.1);clear HR hK hS ht hn hd;go_enter Tryz.func10,Tryz.ntmps10;go_upto_region 1 with fail
 refine(show ∀ W:World,W=((((w.alloc (.cells (a.cells k) 30)).alloc (.cells #[.int .i64 kd, .int .i64 xp, .int .i64 xn, .int .i64 xm, .string nm, .string dt] 40)).alloc (.cells #[.slice none 0 0, .slice none 0 0, .slice none 0 0, .slice none 0 0, .slice none 0 0] 30)).alloc (.cells #[.int .i64 0, .int .i64 0, .string ⟨#[]⟩] 36))→Code.wp _ _ _ _ W from ?_) _ rfl;intro W0 hW0;have hn:W0.heap.size=w.heap.size+4:=by rw[hW0];simp
 have b0:Blk W0 w.heap.size 30 (a.cells k):=by rw[hW0];exact(((Blk.new w _ _).alloc _).alloc _).alloc _
 have b1:Blk W0 (w.heap.size+1) 40 #[.int .i64 kd, .int .i64 xp, .int .i64 xn, .int .i64 xm, .string nm, .string dt]:=by rw[hW0];exact((Blk.new' (by simp)).alloc _).alloc _
 have b2:Blk W0 (w.heap.size+2) 30 #[.slice none 0 0, .slice none 0 0, .slice none 0 0, .slice none 0 0, .slice none 0 0]:=by rw[hW0];exact(Blk.new' (by simp)).alloc _
 have b3:Blk W0 (w.heap.size+3) 36 #[.int .i64 0, .int .i64 0, .string ⟨#[]⟩]:=by rw[hW0];exact Blk.new' (by simp)
 have hb0:Below w.heap.size w W0:=by
  rw[hW0];exact((((Below.refl w.heap.size w).alloc (Nat.le_refl _) _).alloc (by simp) _).alloc (by simp;omega) _).alloc (by simp;omega) _
 have HW0:=Lib.hid hW0;have HCK:=Lib.hid (Lzn k a W0 ((HK0.out.below hb0).more (by omega)) HS0.out);have HB:=Lib.hid (show W0.heap.size=w.heap.size+4∧Below w.heap.size w W0 from ⟨hn,hb0⟩);have B0:=Lib.hid b0;have B1:=Lib.hid b1;have B2:=Lib.hid b2;have B3:=Lib.hid b3;obtain⟨c0,c1,c2,c3,c4⟩:W0.cell? ⟨w.heap.size,0,none⟩=some (.slice a.a0 k.mods.length a.c0)∧W0.cell? ⟨w.heap.size,1,none⟩=some (.slice a.a1 k.mem.length a.c1)∧W0.cell? ⟨w.heap.size,2,none⟩=some (.slice a.a2 k.nodes.length a.c2)∧W0.cell? ⟨w.heap.size,3,none⟩=some (.slice a.a3 k.pipes.length a.c3)∧W0.cell? ⟨w.heap.size,4,none⟩=some (.slice a.a4 k.procs.length a.c4):=⟨b0.cell 0,b0.cell 1,b0.cell 2,b0.cell 3,b0.cell 4⟩;have cl:=b0.lt;clear hW0 hn b0 b1 b2 b3 hb0;unfold KA.cells at HCK;go_wp2_with fail;refine HCK.out.mono ?_;rintro e w1 ⟨rfl,hb1⟩;clear HCK c0 c1 c2 c3 c4 cl;have HB1:=Lib.hid hb1;have D0:=Lib.hid (B0.out.below hb1 B0.out.lt);have D1:=Lib.hid (B1.out.below hb1 B1.out.lt);have D2:=Lib.hid (B2.out.below hb1 B2.out.lt);have D3:=Lib.hid (B3.out.below hb1 B3.out.lt);have HBW:=Lib.hid (HB.out.2.trans (hb1.mono (by have:=HB.out.1;omega)));clear hb1 B0 B1 B2 B3;by_cases hk:Azm k=0
 rotate_left
 ·have hne:(Azm k != 0)=true:=by rw[bne_iff_ne];exact hk
  have hne0:(Azm k == 0)=false:=by rw[beq_eq_false_iff_ne];exact hk
  have HV:Hid (doE k ⟨kd,xp,xn,xm,nm,dt⟩≠0∧doE k ⟨kd,xp,xn,xm,nm,dt⟩=Azm k):=by
   have:doE k ⟨kd,xp,xn,xm,nm,dt⟩=Azm k:=by unfold doE;rw[if_neg hk]
   exact⟨by rw[this];exact hk,this⟩
  clear hk;obtain⟨r0,r1,r2,r3,r4,rf0,rf1,rf2,rf3,rf4,rl⟩:=D2.out.a5;simp at r0 r1 r2 r3 r4;obtain⟨q0,q1,q2,qf0,qf1,qf2,ql⟩:=D3.out.a3;simp at q0 q1 q2;go_wp2;refine bodyPost_ret (v:= .tuple #[.agg #[.slice none 0 0, .slice none 0 0, .slice none 0 0, .slice none 0 0, .slice none 0 0], .agg #[.int .i64 0, .int .i64 0, .string ⟨#[]⟩], .int .i64 (Azm k)]) (by simp[results,Tryz.results10,go_sem,r0,r1,r2,r3,r4,q0,q1,q2]) rfl ?_;refine⟨?_, .inl ⟨HV.out.1,by rw[HV.out.2]⟩⟩;exact((((((((HBW.out.setCell (p:=⟨w.heap.size+2,0,none⟩) (Nat.le_add_right _ 2) _).setCell (p:=⟨w.heap.size+2,1,none⟩) (Nat.le_add_right _ 2) _).setCell (p:=⟨w.heap.size+2,2,none⟩) (Nat.le_add_right _ 2) _).setCell (p:=⟨w.heap.size+2,3,none⟩) (Nat.le_add_right _ 2) _).setCell (p:=⟨w.heap.size+2,4,none⟩) (Nat.le_add_right _ 2) _).setCell (p:=⟨w.heap.size+3,0,none⟩) (Nat.le_add_right _ 3) _).setCell (p:=⟨w.heap.size+3,1,none⟩) (Nat.le_add_right _ 3) _).setCell (p:=⟨w.heap.size+3,2,none⟩) (Nat.le_add_right _ 3) _)
 rw[hk];obtain⟨a0, -, -, -,al⟩:=D1.out.a2;simp at a0;by_cases h1:kd<1∨11<kd
 ·have hin:inB kd 1 11=false:=Azp h1
  have HV:Hid (doE k ⟨kd,xp,xn,xm,nm,dt⟩≠0∧doE k ⟨kd,xp,xn,xm,nm,dt⟩=3):=by
   have:doE k ⟨kd,xp,xn,xm,nm,dt⟩=3:=by unfold doE;rw[if_pos hk,if_pos h1]
   exact⟨by rw[this];decide,this⟩
  have CI:Hid (Calls Tryz.prog 21 #[.int .i64 kd, .int .i64 1, .int .i64 11] w1 fun e w'=>e= .returned (.bool false)∧w1=w'):=by show Calls _ _ _ _ _;rw[←hin];exact Azi _ _ _ _
  clear hk h1 hin;obtain⟨r0,r1,r2,r3,r4,rf0,rf1,rf2,rf3,rf4,rl⟩:=D2.out.a5;simp at r0 r1 r2 r3 r4;obtain⟨q0,q1,q2,qf0,qf1,qf2,ql⟩:=D3.out.a3;simp at q0 q1 q2;go_wp2_with fail;refine CI.out.mono ?_;rintro e w' ⟨rfl,rfl⟩;go_wp2;refine bodyPost_ret (v:= .tuple #[.agg #[.slice none 0 0, .slice none 0 0, .slice none 0 0, .slice none 0 0, .slice none 0 0], .agg #[.int .i64 0, .int .i64 0, .string ⟨#[]⟩], .int .i64 3]) (by simp[results,Tryz.results10,go_sem,r0,r1,r2,r3,r4,q0,q1,q2]) rfl ?_;refine⟨?_, .inl ⟨HV.out.1,by rw[HV.out.2]⟩⟩;exact((((((((HBW.out.setCell (p:=⟨w.heap.size+2,0,none⟩) (Nat.le_add_right _ 2) _).setCell (p:=⟨w.heap.size+2,1,none⟩) (Nat.le_add_right _ 2) _).setCell (p:=⟨w.heap.size+2,2,none⟩) (Nat.le_add_right _ 2) _).setCell (p:=⟨w.heap.size+2,3,none⟩) (Nat.le_add_right _ 2) _).setCell (p:=⟨w.heap.size+2,4,none⟩) (Nat.le_add_right _ 2) _).setCell (p:=⟨w.heap.size+3,0,none⟩) (Nat.le_add_right _ 3) _).setCell (p:=⟨w.heap.size+3,1,none⟩) (Nat.le_add_right _ 3) _).setCell (p:=⟨w.heap.size+3,2,none⟩) (Nat.le_add_right _ 3) _)
 have HK1:=Lib.hid hk;have hin:inB kd 1 11=true:=Azl (by omega) (by omega);have CI:Hid (Calls Tryz.prog 21 #[.int .i64 kd, .int .i64 1, .int .i64 11] w1 fun e w'=>e= .returned (.bool true)∧w1=w'):=by show Calls _ _ _ _ _;rw[←hin];exact Azi _ _ _ _
 have HKD:=Lib.hid (show 1≤kd∧kd≤11 from ⟨by omega,by omega⟩);have HV:Hid (doE k ⟨kd,xp,xn,xm,nm,dt⟩=0):=by show _=_;unfold doE;rw[if_pos HK1.out,if_neg (by simp only;omega)]
 clear hk h1 hin;have HKO:=Lib.hid ((Dzt k).1 HK1.out);obtain⟨c0,c1,c2,c3,c4⟩:w1.cell? ⟨w.heap.size,0,none⟩=some (.slice a.a0 k.mods.length a.c0)∧w1.cell? ⟨w.heap.size,1,none⟩=some (.slice a.a1 k.mem.length a.c1)∧w1.cell? ⟨w.heap.size,2,none⟩=some (.slice a.a2 k.nodes.length a.c2)∧w1.cell? ⟨w.heap.size,3,none⟩=some (.slice a.a3 k.pipes.length a.c3)∧w1.cell? ⟨w.heap.size,4,none⟩=some (.slice a.a4 k.procs.length a.c4):=⟨D0.out.cell 0,D0.out.cell 1,D0.out.cell 2,D0.out.cell 3,D0.out.cell 4⟩;have cl:=D0.out.lt;have HCP:=Lib.hid (Lzm k a w1 ((HK0.out.below HBW.out).more HBW.out.size));unfold KA.cells at HCP;go_wp2_with fail;refine CI.out.mono ?_;rintro e w' ⟨rfl,rfl⟩;clear CI;go_wp2_with fail;refine HCP.out.mono ?_;rintro e w2 ⟨V0,V1,V2,V3,V4,ms,es,rfl,hCp,hb2⟩;obtain⟨A0,k0,rfl⟩:=Az1 hCp.mods;obtain⟨A1,k1,rfl⟩:=Az1 hCp.mem;obtain⟨A2,k2,rfl⟩:=Az1 hCp.nodes;obtain⟨A3,k3,rfl⟩:=Az1 hCp.pipes;obtain⟨A4,k4,rfl⟩:=Az1 hCp.procs;have hD0:=DidAt.start (cs:= #[.int .i64 kd, .int .i64 xp, .int .i64 xn, .int .i64 xm, .string nm, .string dt]) HW0.out HB1.out hb2 hCp HK0.out.fits;clear hCp hb2 HCP c0 c1 c2 c3 c4 cl a0 al;go_upto_region 8 with fail
 refine(show ∀ W:World,DidAt w W ⟨A0,k0,A1,k1,A2,k2,A3,k3,A4,k4⟩ k ms es #[.int .i64 kd, .int .i64 xp, .int .i64 xn, .int .i64 xm, .string nm, .string dt] w2.heap.size (w2.heap.size+1) 0 0 ⟨#[]⟩→Code.wp _ _ _ _ W from ?_) _ hD0;clear hD0 D0 D1 D2 D3;intro W9 hD9;have HD9:=Lib.hid hD9;clear hD9;obtain⟨aa,haa⟩:∃ aa:KA,aa=⟨A0,k0,A1,k1,A2,k2,A3,k3,A4,k4⟩:=⟨_,rfl⟩;rw[←haa] at HD9;clear haa;obtain⟨bk,hbk⟩:∃ bk,bk=w2.heap.size:=⟨_,rfl⟩;obtain⟨bo,hbo⟩:∃ bo,bo=w2.heap.size+1:=⟨_,rfl⟩;rw[←hbo, ←hbk] at HD9;rw[←hbo, ←hbk];clear hbo hbk;obtain⟨x0, -, -, -,xl⟩:=HD9.out.ac.a2;simp at x0;go_upto_block 0 with fail
 go_cut [] (fun wx=>∃ aa ms es kk rc rn rd,DidAt w wx aa kk ms es #[.int .i64 kd, .int .i64 xp, .int .i64 xn, .int .i64 xm, .string nm, .string dt] bk bo rc rn rd∧doK k ⟨kd,xp,xn,xm,nm,dt⟩=(kk,⟨rc,rn,rd⟩))
 case first=>
  clear x0 xl;by_cases k1:kd=1
  ·subst k1
   have HVD:Hid (doK k ⟨1,xp,xn,xm,nm,dt⟩=Bzf k dt):=rfl;have HMO:Hid (Calls Tryz.prog 23 #[.string dt] W9 (DecPost W9 (decR dt))):=Jzk dt.data.toList W9 (by simpa using HDT.out);have a5:=HD9.out.ac.cell 5;have al:=HD9.out.ac.lt;simp at a5;go_wp2_with fail;refine HMO.out.mono ?_;rintro e w3 ⟨VC,VD,rfl,hVC,hVD,hb⟩;clear a5 al HMO;cases hd:decE dt.data.toList Az7 with
   | mk o e0=>
   cases o with
   | none=>
     have hR:decR dt=(⟨⟨#[]⟩,[],[]⟩,e0):=by unfold decR;rw[hd];rfl
     have HV1:Hid (Bzf k dt=(k,ansE e0)):=by show _=_;unfold Bzf;rw[hd]
     have qe:(e0 == 0)=false:=by rw[beq_eq_false_iff_ne];exact Izl hd
     rw[hR] at hVC hVD;rw[hR];clear hd hR;have hI:=InR.start (m:=⟨⟨#[]⟩,[],[]⟩) HD9.out hb hVC hVD;obtain⟨AC,cC,rfl⟩:=Az1 hVC;obtain⟨AD,cD,rfl⟩:=Az1 hVD;clear hVC hVD hb HD9;go_upto_region 12 with fail
     refine(show ∀ W W0:World,InR w W0 W aa k ms es _ bk bo 0 0 w3.heap.size (⟨⟨#[]⟩,[],[]⟩:Mod) (.slice AC (⟨⟨#[]⟩,[],[]⟩:Mod).code.length cC) (.slice AD (⟨⟨#[]⟩,[],[]⟩:Mod).data.length cD)→Code.wp _ _ _ _ W from ?_) _ _ (hI);clear hI;intro W3 W9' hZ;have HI:=Lib.hid hZ;clear hZ;obtain⟨o0,o1,of0,of1,ol⟩:=HI.out.at_.ot.a2;simp at o0 o1;go_upto_region 13 with fail
     refine(show ∀ W W0:World,InR w W0 W aa k ms es _ bk bo e0 0 w3.heap.size (⟨⟨#[]⟩,[],[]⟩:Mod) (.slice AC (⟨⟨#[]⟩,[],[]⟩:Mod).code.length cC) (.slice AD (⟨⟨#[]⟩,[],[]⟩:Mod).data.length cD)→Code.wp _ _ _ _ W from ?_) _ _ (HI.out.set_ 0 (.int .i64 e0) (v0:=e0) (v1:=0) rfl);clear HI o0 o1 of0 of1 ol;intro W4 W8' hZ;have HI4:=Lib.hid hZ;clear hZ;obtain⟨d0,_,_,_,_⟩:=HI4.out.at_.ks.c5;have gl:=HI4.out.at_.ks.blk.lt;obtain⟨o0,o1,of0,of1,ol⟩:=HI4.out.at_.ot.a2;simp at o0 o1;by_cases hl:k.mods.length=0
     ·have q1:¬ (0:Int)<(k.mods.length:Int):=by omega
      clear hl;go_wp2_with fail;go_loop [12] (fun i=>i= .int .i64 0) (fun _=>1)
      case atStart=>rfl
      case round=>
       subst hrel;go_wp2;go_meet;exact⟨_,_,_,_,_,_,_,HI4.out.at_,(HVD.out.trans HV1.out)⟩
     ·have q1:(0:Int)<(k.mods.length:Int):=by omega
      clear hl;go_wp2_with fail;go_loop [12] (fun i=>i= .int .i64 0) (fun _=>1)
      case atStart=>rfl
      case round=>
       subst hrel;go_wp2;go_meet;exact⟨_,_,_,_,_,_,_,HI4.out.at_,(HVD.out.trans HV1.out)⟩
   | some m=>
     obtain⟨hmc,rfl⟩:=Gza hd;have hR:decR dt=(m,0):=by unfold decR;rw[hd];rfl
     have HV1:Hid (Bzf k dt=if k.mods.any (fun x=>x.name == m.name) then (k,ansE 7) else if k.mods.length=8 then (k,ansE 8)
      else ({ k with mods:=k.mods++ [m],mem:=k.mem.take (64*k.mods.length)++(m.data++List.replicate (64 - m.data.length) 0)++k.mem.drop (64*k.mods.length+64) },ansN k.mods.length)):=by show _=_;unfold Bzf;rw[hd]
     have HM:=Lib.hid hmc;rw[hR] at hVC hVD;rw[hR];clear hd hR hmc;have hI:=InR.start (m:=m) HD9.out hb hVC hVD;obtain⟨AC,cC,rfl⟩:=Az1 hVC;obtain⟨AD,cD,rfl⟩:=Az1 hVD;clear hVC hVD hb HD9;go_upto_region 12 with fail
     refine(show ∀ W W0:World,InR w W0 W aa k ms es _ bk bo 0 0 w3.heap.size m (.slice AC m.code.length cC) (.slice AD m.data.length cD)→Code.wp _ _ _ _ W from ?_) _ _ (hI);clear hI;intro W3 W9' hZ;have HI:=Lib.hid hZ;clear hZ;obtain⟨o0,o1,of0,of1,ol⟩:=HI.out.at_.ot.a2;simp at o0 o1;go_upto_region 13 with fail
     refine(show ∀ W W0:World,InR w W0 W aa k ms es _ bk bo 0 0 w3.heap.size m (.slice AC m.code.length cC) (.slice AD m.data.length cD)→Code.wp _ _ _ _ W from ?_) _ _ (HI.out.set_ 0 (.int .i64 0) (v0:=0) (v1:=0) rfl);clear HI o0 o1 of0 of1 ol;intro W4 W8' hZ;have HI4:=Lib.hid hZ;clear hZ;go_wp2_with fail;go_loopw [12] (fun i wr=>Cnt k.mods.length i fun j=>∃ W0,InR w W0 wr aa k ms es #[.int .i64 1, .int .i64 xp, .int .i64 xn, .int .i64 xm, .string nm, .string dt] bk bo (dupC k m j) 0 w3.heap.size m (.slice AC m.code.length cC) (.slice AD m.data.length cD)) (fun i _=>k.mods.length - (intOf i).toNat)
     case atStart=>exact⟨0,Nat.zero_le _,rfl,_,HI4.out⟩
     case round=>
      clear HI4;obtain⟨j,hj,rfl,W0',hZ⟩:=hrel;have HI:=Lib.hid hZ;clear hZ;have hl8:=HKO.out.l0;by_cases hlt:j<k.mods.length
      ·have hjn:(j:Int)<(k.mods.length:Int):=by omega
       have HST:=Lib.hid (Nz3 (m:=m) hlt);obtain⟨x,hx⟩:∃ x,x=k.mods[j]:=⟨_,rfl⟩;obtain⟨b0,ha0,_,hlt0⟩:=Azf HI.out.at_.ks.cp.mods (by omega);obtain⟨b',o',e1,hbB',hcell⟩:=HI.out.at_.ks.krn.mods (by omega);obtain⟨rfl,rfl⟩:b0=b'∧0=o':=by
        have:=ha0.symm.trans e1;injection this with this
        injection this with e3 e4
        exact⟨e3,e4⟩
       obtain⟨_,_,_,_,z0,_⟩:=hcell j hlt;rw[←hx] at z0 HST;rw[Nat.zero_add] at z0;have d0:=HI.out.at_.ks.c5.1;rw[ha0] at d0;have gl:=HI.out.at_.ks.blk.lt;obtain⟨m0, -, -, -,ml⟩:=HI.out.md.a2;simp at m0;clear hcell e1 ha0 hx;cases hq:(x.name == m.name) with
       | true=>
         rw[hq,if_pos rfl] at HST;have hk':(x.name.toList == m.name.toList)=true:=by rw[bs_l];exact hq
         clear hq;go_wp2_with fail;refine Azb (by kernel_rfl) (by kernel_rfl) ?_
         repeat (go_big_quiet_step (fail))
         refine wpQuiet_nil ?_;rintro W5 ⟨⟨Wq,hbq⟩,hq5⟩;replace hq5:W5=Wq:=hq5;subst hq5;have HI5:=Lib.hid (HI.out.below hbq);clear hbq HI d0 gl m0 ml z0 hlt0;obtain⟨o0,o1,of0,of1,ol⟩:=HI5.out.at_.ot.a2;simp at o0 o1;have HI6:=Lib.hid (HI5.out.set_ 0 (.int .i64 7) (v0:=dupC k m (j+1)) (v1:=0) (by rw[HST.out];rfl));go_wp2;go_roundw
         case rel=>exact⟨j+1,by omega,by go_num,_,HI6.out⟩
         case measure=>simp[intOf];omega
       | false=>
         rw[hq,if_neg (by decide)] at HST;have hk':(x.name.toList == m.name.toList)=false:=by rw[bs_l];exact hq
         clear hq;go_wp2_with fail;refine Azb (by kernel_rfl) (by kernel_rfl) ?_
         repeat (go_big_quiet_step (fail))
         refine wpQuiet_nil ?_;rintro W5 ⟨⟨Wq,hbq⟩,hq5⟩;replace hq5:W5=Wq:=hq5;subst hq5;have hI6:=HI.out.below hbq;rw[←HST.out] at hI6;have HI6:=Lib.hid hI6;clear hbq HI d0 gl m0 ml z0 hlt0 hI6;go_wp2;go_roundw
         case rel=>exact⟨j+1,by omega,by go_num,_,HI6.out⟩
         case measure=>simp[intOf];omega
      ·obtain rfl:j=k.mods.length:=by omega
       have HDC:Hid (dupC k m k.mods.length=if k.mods.any (fun x=>x.name == m.name) then 7 else 0):=by show _=_;unfold dupC;rw[List.take_of_length_le (Nat.le_refl _)]
       clear hlt hj;have d0:=HI.out.at_.ks.c5.1;have gl:=HI.out.at_.ks.blk.lt;cases hdup:k.mods.any (fun x=>x.name == m.name) with
       | true=>
         rw[hdup,if_pos rfl] at HV1 HDC;have hI:=HI.out;rw[HDC.out] at hI;have HI5:=Lib.hid hI;clear hI HI hdup;obtain⟨o0,o1,of0,of1,ol⟩:=HI5.out.at_.ot.a2;simp at o0 o1;go_wp2;go_meet;exact⟨_,_,_,_,_,_,_,HI5.out.at_,(HVD.out.trans HV1.out)⟩
       | false=>
         rw[hdup,if_neg (by decide)] at HV1 HDC;have hI:=HI.out;rw[HDC.out] at hI;have HI5:=Lib.hid hI;clear hI HI hdup;obtain⟨o0,o1,of0,of1,ol⟩:=HI5.out.at_.ot.a2;simp at o0 o1;by_cases h8:k.mods.length=8
         ·rw[if_pos h8] at HV1
          have q8:(8:Int)≤(k.mods.length:Int):=by omega
          clear h8;go_wp2;go_meet;exact⟨_,_,_,_,_,_,_,(HI5.out.set_ 0 (.int .i64 8) (v0:=8) (v1:=0) rfl).at_,(HVD.out.trans HV1.out)⟩
         rw[if_neg h8] at HV1;have q8:¬ (8:Int)≤(k.mods.length:Int):=by omega
         have h7:k.mods.length<8:=by omega
         have H7:=Lib.hid h7;go_upto_region 22 with fail
         refine(show ∀ W W0:World,InR w W0 W aa k ms es _ bk bo 0 (k.mods.length:Int) w3.heap.size m (.slice AC m.code.length cC) (.slice AD m.data.length cD)→Code.wp _ _ _ _ W from ?_) _ _ (HI5.out.set_ 1 (.int .i64 (k.mods.length:Int)) (v0:=0) (v1:=(k.mods.length:Int)) rfl);clear HI5 o0 o1 of0 of1 ol d0 gl;intro W6 W5' hZ;have HI6:=Lib.hid hZ;clear hZ;have d0:=HI6.out.at_.ks.c5.1;obtain⟨-, -,gf, -,gl⟩:=HI6.out.at_.ks.blk.a2;obtain⟨m0,m1,m2, -, -, -,ml⟩:=HI6.out.md.a3;simp at m0 m1 m2;obtain⟨i0,hi0,hz0,hz1,hz2⟩:=info_parts Gz1;have hU:=Tryz.underlying24;have HOW:=Lib.hid HI6.out.at_.ks.cp.mods;have hba:=(Below.refl W6.heap.size W6).alloc (Nat.le_refl _) (.cells #[.string m.name, .slice AC m.code.length cC, .slice AD m.data.length cD] 47);have HBA:=Lib.hid hba;have hwl:=HI6.out.at_.fr.size;clear hba;go_wp2_with (first
          | (at_builtin
             refine wpList_append_lies _ rfl (.tmp 86) (.tmp 88) _ rfl w.heap.size 47 i0 _ 3 64 hU hi0 hz0 hz1 hz2 rfl (by omega) (.slice aa.a0 k.mods.length aa.c0) k.mods.length (Azy k.mods ms) rfl ?_ ⟨W6.heap.size,0,none⟩ 1 1 [.string m.name, .slice AC m.code.length cC, .slice AD m.data.length cD] rfl rfl ?_ ?_ (by omega) ?_ ?_ ?_ (W6.heap.size+1) ?_ ?_
             ·exact own_below HOW.out HBA.out
             ·exact World.news_of_block (fr:=(0,0)) (B:=W6.heap.size) (t:=47) (cs:= #[.string m.name, .slice AC m.code.length cC, .slice AD m.data.length cD]) (Blk.new _ _ _)
             ·(intro u hu;simp at hu;rcases hu with rfl|rfl|rfl<;>rfl)
             ·(unfold maxLen;omega)
             ·omega
             ·(simp;omega)
             ·simp
             intro g3 cap3 w7 hown3 hgrow3 hat3 hlt3;have gl7:bk<w7.heap.size:=Nat.lt_of_lt_of_le gl (Nat.le_trans (Nat.le_succ _) (by simpa using hgrow3.size));have kb7:=(HI6.out.at_.ks.blk.below HBA.out gl).tch (Tch.of_grown (own_below HOW.out HBA.out) hgrow3) (by decide);obtain⟨kc7, -,kf7, -⟩:=kb7.a2;simp[KA.cells] at kc7;obtain⟨A5,c5,e5,hC⟩:=HI6.out.next HBA.out hown3 hgrow3 HM.out HKO.out H7.out;have HC5:=Lib.hid hC;have HE5:=Lib.hid e5;clear hC e5 hown3 hgrow3 hat3 HOW HBA kb7))
         obtain⟨NN,hNN⟩:∃ N,N=W5'.heap.size:=⟨_,rfl⟩;rw[←hNN] at HC5;clear hNN;have hL0:∀ W:World,InD w W { aa with a0:=A5,c0:=c5 } { k with mods:=k.mods++ [m] } (ms++ [(.slice AC m.code.length cC, .slice AD m.data.length cD)]) es #[.int .i64 1, .int .i64 xp, .int .i64 xn, .int .i64 xm, .string nm, .string dt] bk bo 0 (k.mods.length:Int) w3.heap.size m (.slice AC m.code.length cC) (.slice AD m.data.length cD) NN→InD w W { aa with a0:=A5,c0:=c5 } { k with mods:=k.mods++ [m],mem:=layM k.mem m.data (64*k.mods.length) 0 } (ms++ [(.slice AC m.code.length cC, .slice AD m.data.length cD)]) es #[.int .i64 1, .int .i64 xp, .int .i64 xn, .int .i64 xm, .string nm, .string dt] bk bo 0 (k.mods.length:Int) w3.heap.size m (.slice AC m.code.length cC) (.slice AD m.data.length cD) NN:=fun W h=>by rw[Nzb];exact h
         go_upto_region 23 with fail
         refine(show ∀ W:World,InD w W { aa with a0:=A5,c0:=c5 } { k with mods:=k.mods++ [m],mem:=layM k.mem m.data (64*k.mods.length) 0 } (ms++ [(.slice AC m.code.length cC, .slice AD m.data.length cD)]) es #[.int .i64 1, .int .i64 xp, .int .i64 xn, .int .i64 xm, .string nm, .string dt] bk bo 0 (k.mods.length:Int) w3.heap.size m (.slice AC m.code.length cC) (.slice AD m.data.length cD) NN→Code.wp _ _ _ _ W from ?_) _ (hL0 _ HC5.out);clear hL0 HC5 HI6 d0 gl gf m0 m1 m2 ml gl7 kc7 kf7 hwl HE5;intro W8 hZ;have H0:=Lib.hid hZ;clear hZ;obtain⟨b1,hb1,_⟩:=H0.out.a1;have HA1:Hid (aa.a1=some ⟨b1,0,none⟩):=hb1;clear hb1;obtain⟨_,_,hm64⟩:=Dzu HM.out;have hM:k.mem.length=1024:=HKO.out.l1;have ho:64*k.mods.length+64≤k.mem.length:=by omega
         have HHO:=Lib.hid ho;go_wp2_with fail;go_loopw [13] (fun i wr=>Cnt 64 i fun j=>InD w wr { aa with a0:=A5,c0:=c5 } { k with mods:=k.mods++ [m],mem:=layM k.mem m.data (64*k.mods.length) j } (ms++ [(.slice AC m.code.length cC, .slice AD m.data.length cD)]) es #[.int .i64 1, .int .i64 xp, .int .i64 xn, .int .i64 xm, .string nm, .string dt] bk bo 0 (k.mods.length:Int) w3.heap.size m (.slice AC m.code.length cC) (.slice AD m.data.length cD) NN) (fun i _=>64 - (intOf i).toNat)
         case atStart=>exact⟨0,Nat.zero_le _,rfl,H0.out⟩
         case round=>
          clear H0;obtain⟨j,hj,rfl,hZ⟩:=hrel;have HI:=Lib.hid hZ;clear hZ;by_cases hlt:j<64
          ·have hj64:(j:Int)<64:=by omega
           have n7:(k.mods.length:Int)<8:=by omega
           have HLM:=Lib.hid (Pzb hm64 HHO.out (Nat.le_of_lt hlt));have d1:=HI.out.dd.ks.c5.2.1;simp only[HLM.out,HA1.out,hM] at d1;have gl:=HI.out.dd.ks.blk.lt;obtain⟨-,o1, -, -,ol⟩:=HI.out.dd.ot.a2;simp at o1;have hmem:=HI.out.dd.ks.cp.mem;simp only[HA1.out] at hmem;obtain⟨bb,ebb,_,hlb⟩:=Azf hmem (by show 0<(layM k.mem m.data (64*k.mods.length) j).length;rw[HLM.out,hM];omega);obtain rfl:b1=bb:=by injection ebb with ebb;injection ebb
           have hri:=HI.out.dd.ks.krn.mem;have hmc:∃ v,wr.cell? ⟨b1,64*k.mods.length+j,none⟩=some v:=by
            obtain⟨b',o',e1,_,hc⟩:=hri (by show 0<(layM k.mem m.data (64*k.mods.length) j).length;rw[HLM.out,hM];omega);simp only[HA1.out] at e1;obtain⟨rfl,rfl⟩:b1=b'∧0=o':=by injection e1 with e1;injection e1 with e1 e2;exact⟨e1,e2⟩
            have:=hc (64*k.mods.length+j) (by show _<(layM k.mem m.data (64*k.mods.length) j).length;rw[HLM.out,hM];omega);rw[Nat.zero_add] at this;exact⟨_,this⟩
           obtain⟨v,hmc⟩:=hmc;have hmf:wr.frozen? ⟨b1,64*k.mods.length+j,none⟩=false:=hmem.frozenAt _;have e64:(64*(k.mods.length:Int)+(j:Int)).toNat=64*k.mods.length+j:=by omega
           have hix:64*(k.mods.length:Int)+(j:Int)<1024:=by omega
           have hiz:¬ 64*(k.mods.length:Int)+(j:Int)<0:=by omega
           have HW1:=Lib.hid (HI.out.word HA1.out (64*k.mods.length+j) 0);clear hri hmem ebb;go_upto_region 27 with fail
           refine(show ∀ W:World,InD w W { aa with a0:=A5,c0:=c5 } { k with mods:=k.mods++ [m],mem:=(layM k.mem m.data (64*k.mods.length) j).set (64*k.mods.length+j) 0 } (ms++ [(.slice AC m.code.length cC, .slice AD m.data.length cD)]) es #[.int .i64 1, .int .i64 xp, .int .i64 xn, .int .i64 xm, .string nm, .string dt] bk bo 0 (k.mods.length:Int) w3.heap.size m (.slice AC m.code.length cC) (.slice AD m.data.length cD) NN→Code.wp _ _ _ _ W from ?_) _ HW1.out;clear HW1 HI d1 gl o1 ol hlb hmc hmf;intro W10 hZ;have HI:=Lib.hid hZ;clear hZ;obtain⟨-, -,m2, -, -, -,ml⟩:=HI.out.md.a3;simp at m2;by_cases hjd:j<m.data.length
           ·have q1:(j:Int)<(m.data.length:Int):=by omega
            have HLO:=Lib.hid (Rz8 hm64 HHO.out hjd);have hLs:((layM k.mem m.data (64*k.mods.length) j).set (64*k.mods.length+j) 0).length=1024:=by rw[List.length_set,HLM.out,hM]
            have d1:=HI.out.dd.ks.c5.2.1;simp only[hLs,HA1.out] at d1;have gl:=HI.out.dd.ks.blk.lt;obtain⟨-,o1, -, -,ol⟩:=HI.out.dd.ot.a2;simp at o1;have hmem:=HI.out.dd.ks.cp.mem;simp only[HA1.out] at hmem;obtain⟨bb,ebb,_,hlb⟩:=Azf hmem (by show 0<(List.set _ _ _).length;rw[hLs];omega);obtain rfl:b1=bb:=by injection ebb with ebb;injection ebb
            have hri:=HI.out.dd.ks.krn.mem;have hmc:∃ v,W10.cell? ⟨b1,64*k.mods.length+j,none⟩=some v:=by
             obtain⟨b',o',e1,_,hc⟩:=hri (by show 0<(List.set _ _ _).length;rw[hLs];omega);simp only[HA1.out] at e1;obtain⟨rfl,rfl⟩:b1=b'∧0=o':=by injection e1 with e1;injection e1 with e1 e2;exact⟨e1,e2⟩
             have:=hc (64*k.mods.length+j) (by show _<(List.set _ _ _).length;rw[hLs];omega);rw[Nat.zero_add] at this;exact⟨_,this⟩
            obtain⟨v,hmc⟩:=hmc;have hmf:W10.frozen? ⟨b1,64*k.mods.length+j,none⟩=false:=hmem.frozenAt _;have hod:=HI.out.od;obtain⟨bd,rfl,_,hld⟩:=Azf hod (by omega);have hrd:=Rd.of_own hod;have hdc:W10.cell? ⟨bd,j,none⟩=some (.int .i64 m.data[j]):=by
             obtain⟨b',o',e1,_,hc⟩:=hrd.2 (by omega);obtain⟨rfl,rfl⟩:bd=b'∧0=o':=by injection e1 with e1;injection e1 with e1 e2;exact⟨e1,e2⟩
             have:=hc j _ (by unfold intCells;rw[List.getElem?_map,List.getElem?_eq_getElem hjd];rfl);rw[Nat.zero_add] at this;exact this
            obtain⟨x,hx⟩:∃ x,x=m.data[j]:=⟨_,rfl⟩;rw[←hx] at hdc HLO;clear hx hrd hod hri hmem ebb hLs;go_upto_region 28 with fail
            go_still_tail 12,(by kernel_rfl);change wpList _ _ _ _ _ W10.drew;have hI5:=(HI.out.below (Below.drewN' (Below.refl _ W10) 1)).word HA1.out (64*k.mods.length+j) x;simp only[HLO.out] at hI5;have HI5:=Lib.hid hI5;clear hI5 HI;go_wp2;go_roundw
            case rel=>exact⟨j+1,by omega,by go_num,HI5.out⟩
            case measure=>simp[intOf];omega
           ·have q1:¬ (j:Int)<(m.data.length:Int):=by omega
            have HHI:=Lib.hid (Rz7 hm64 HHO.out hlt (by omega));have hI5:=HI.out;simp only[HHI.out] at hI5;have HI5:=Lib.hid hI5;clear hI5 HI;go_wp2;go_roundw
            case rel=>exact⟨j+1,by omega,by go_num,HI5.out⟩
            case measure=>simp[intOf];omega
          ·obtain rfl:j=64:=by omega
           have hI:=HI.out;rw[Pza hm64] at hI;have HI5:=Lib.hid hI;clear hI HI;go_wp2;go_meet;exact⟨_,_,_,_,_,_,_,HI5.out.dd,(HVD.out.trans HV1.out)⟩
  have t1:(kd == 1)=false:=by rw[beq_eq_false_iff_ne];exact k1
  by_cases k2:kd=2
  ·subst k2
   have HVD:Hid (doK k ⟨2,xp,xn,xm,nm,dt⟩=Cze k nm ⟨noS,1,noS,0⟩):=rfl;have HI:=Lib.hid (Lz2 nm (⟨noS,1,noS,0⟩:Nod) W9 HD9.out.ks HKO.out HN.out);obtain⟨r,hr⟩:∃ r,r=Cze k nm ⟨noS,1,noS,0⟩:=⟨_,rfl⟩;rw[←hr] at HI HVD;clear hr;have a4:=HD9.out.ac.cell 4;have al:=HD9.out.ac.lt;simp at a4;go_wp2_with fail;refine HI.out.mono ?_;rintro e w10 ⟨rfl,hK',hF⟩;have HD10:=Lib.hid (HD9.out.next hK' hF);clear hK' hF HI HD9 al a4;obtain⟨kk,kr⟩:=r;obtain⟨rc,rn,rd⟩:=kr;obtain⟨o0,o1,o2,of0,of1,of2,ol⟩:=HD10.out.ot.a3;simp at o0 o1 o2;go_wp2;go_meet;exact⟨_,_,_,_,_,_,_,((HD10.out.set_ 0 (.int .i64 rc) (v0:=rc) (v1:=0) (t:=⟨#[]⟩) rfl).set_ 1 (.int .i64 rn) (v0:=rc) (v1:=rn) (t:=⟨#[]⟩) rfl).set_ 2 (.string rd) (v0:=rc) (v1:=rn) (t:=rd) rfl,HVD.out⟩
  have t2:(kd == 2)=false:=by rw[beq_eq_false_iff_ne];exact k2
  by_cases k3:kd=3
  ·subst k3
   have HVD:Hid (doK k ⟨3,xp,xn,xm,nm,dt⟩=Cze k nm ⟨noS,2,noS,xn⟩):=rfl;have HI:=Lib.hid (Lz2 nm (⟨noS,2,noS,xn⟩:Nod) W9 HD9.out.ks HKO.out HN.out);obtain⟨r,hr⟩:∃ r,r=Cze k nm ⟨noS,2,noS,xn⟩:=⟨_,rfl⟩;rw[←hr] at HI HVD;clear hr;obtain⟨-, -,a2, -,a4, -, -, -, -, -,al⟩:=HD9.out.ac.a5;simp at a2 a4;go_wp2_with fail;refine HI.out.mono ?_;rintro e w10 ⟨rfl,hK',hF⟩;have HD10:=Lib.hid (HD9.out.next hK' hF);clear hK' hF HI HD9 al a2 a4;obtain⟨kk,kr⟩:=r;obtain⟨rc,rn,rd⟩:=kr;obtain⟨o0,o1,o2,of0,of1,of2,ol⟩:=HD10.out.ot.a3;simp at o0 o1 o2;go_wp2;go_meet;exact⟨_,_,_,_,_,_,_,((HD10.out.set_ 0 (.int .i64 rc) (v0:=rc) (v1:=0) (t:=⟨#[]⟩) rfl).set_ 1 (.int .i64 rn) (v0:=rc) (v1:=rn) (t:=⟨#[]⟩) rfl).set_ 2 (.string rd) (v0:=rc) (v1:=rn) (t:=rd) rfl,HVD.out⟩
  have t3:(kd == 3)=false:=by rw[beq_eq_false_iff_ne];exact k3
  by_cases k4:kd=4
  ·subst k4
   have HVD:Hid (doK k ⟨4,xp,xn,xm,nm,dt⟩=if empS nm∨Bzm k nm<0 then (k,ansE 6) else (Czx (setNod k (Bzm k nm).toNat { (k.nodes.getD (Bzm k nm).toNat default) with name:=noS }),ansN 0)):=rfl;have HI:=Lib.hid (Fz6 (.slice aa.a0 k.mods.length aa.c0) (.slice aa.a1 k.mem.length aa.c1) (.slice aa.a3 k.pipes.length aa.c3) (.slice aa.a4 k.procs.length aa.c4) aa.a2 aa.c2 k nm W9 HKO.out HD9.out.ks.krn.nodes);obtain⟨d0,d1,d2,d3,d4⟩:=HD9.out.ks.c5;have gl:=HD9.out.ks.blk.lt;have a4:=HD9.out.ac.cell 4;have al:=HD9.out.ac.lt;simp at a4;go_wp2_with fail;refine HI.out.mono ?_;rintro e w10 ⟨rfl,hb⟩;have HD10:=Lib.hid (HD9.out.below hb);clear hb HI HD9 d0 d1 d2 d3 d4 gl a4 al;obtain⟨o0,o1,of0,of1,ol⟩:=HD10.out.ot.a2;simp at o0 o1;by_cases h6:empS nm=true∨Bzm k nm<0
   ·rw[if_pos h6] at HVD
    have h0:refN k nm<0:=by
     unfold refN;rcases h6 with h|h
     ·rw[h,if_pos rfl];decide
     ·split
      ·decide
      ·exact h
    obtain⟨fi,hfi⟩:∃ fi,fi=refN k nm:=⟨_,rfl⟩;rw[←hfi] at h0 ⊢;clear hfi h6;go_wp2;go_meet;exact⟨_,_,_,_,_,_,_,(HD10.out.set_ 0 (.int .i64 6) (v0:=6) (v1:=0) (t:=⟨#[]⟩) rfl),HVD.out⟩
   rw[if_neg h6] at HVD;have hem:empS nm=false:=by
    cases h:empS nm with
    | true=>exact absurd (.inl h) h6
    | false=>rfl
   have hrn:refN k nm=Bzm k nm:=by unfold refN;rw[hem];rfl
   rw[hrn];obtain⟨i,hi,he,hki,_⟩:=Eze (k:=k) (s:=nm) (by omega);rw[he,Int.toNat_natCast,Az3 hi] at HVD;rw[he];have hi8:(i:Int)<8:=by have:=HKO.out.l2;omega
   have hni:¬ (i:Int)<0:=by omega
   clear h6 hem hrn he;obtain⟨b2,ha2,hbb2,hlt2⟩:=Azf HD10.out.ks.cp.nodes (by omega);obtain⟨b',o',e1,hbB',hcell⟩:=HD10.out.ks.krn.nodes (by omega);obtain⟨rfl,rfl⟩:b2=b'∧0=o':=by
    have:=ha2.symm.trans e1;injection this with this
    injection this with e3 e4
    exact⟨e3,e4⟩
   obtain⟨z0,z1,z2,z3⟩:=hcell i hi;simp only[Nat.zero_add] at z0 z1 z2 z3;have fz:w10.frozen? ⟨b2,i*4,none⟩=false:=by
    have hn2:=HD10.out.ks.cp.nodes;rw[ha2] at hn2;exact hn2.frozenAt _
   have d2:w10.cell? ⟨bk,2,none⟩=some (.slice (some ⟨b2,0,none⟩) 8 aa.c2):=by
    have:=HD10.out.ks.c5.2.2.1;rw[ha2,HKO.out.l2] at this;exact this
   have gl:=HD10.out.ks.blk.lt;have HN4:=Lib.hid (HD10.out.ks.nodeName ha2 hi noS);have HZZ:Hid (∀ x∈(setNod k i { k.nodes[i] with name:=noS }).nodes,x.kind=0→x=default):=fun x hx h0=>by
    rcases List.mem_or_eq_of_mem_set hx with hx|rfl
    ·exact Rz6 HKO.out x hx h0
    ·exact absurd h0 hki
   clear hcell e1 ha2 hki;go_upto_region 38 with fail
   refine(show ∀ W:World,DidAt w W aa (setNod k i { k.nodes[i] with name:=noS }) ms es _ bk bo 0 0 ⟨#[]⟩→Code.wp _ _ _ _ W from ?_) _ (HD10.out.next HN4.out.1 HN4.out.2);clear HN4 HD10 z0 z1 z2 z3 fz d2 gl o0 o1 ol of0 of1;intro W11 hD11;have HD11:=Lib.hid hD11;have HT:=Lib.hid (Fzd W11 hD11.ks (by simp only[setNod,List.length_set];exact HKO.out.l2) HKO.out.l3 HKO.out.l4 HZZ.out);clear hD11;go_wp2_with fail;refine HT.out.mono ?_;rintro e w12 ⟨rfl,hK',hF⟩;have HD12:=Lib.hid (HD11.out.next hK' hF);clear hK' hF HT HD11;go_wp2;go_meet;exact⟨_,_,_,_,_,_,_,HD12.out,HVD.out⟩
  have t4:(kd == 4)=false:=by rw[beq_eq_false_iff_ne];exact k4
  have HVD:Hid (doK k ⟨kd,xp,xn,xm,nm,dt⟩=byR k ⟨kd,xp,xn,xm,nm,dt⟩):=by
   show _=_;unfold doK byR;simp only;rw[if_neg k1,if_neg k2,if_neg k3,if_neg k4]
  have HBY:=Lib.hid (Qzp HR'.out (⟨kd,xp,xn,xm,nm,dt⟩:Akt) W9 HD9.out.ks HKO.out (HT0.out.below HD9.out.fr) HTL.out HN.out HDT.out (by have:=HKD.out;show 5≤kd;omega) HKD.out.2);clear k1 k2 k3 k4;obtain⟨r,hr⟩:∃ r,r=byR k ⟨kd,xp,xn,xm,nm,dt⟩:=⟨_,rfl⟩;rw[←hr] at HBY HVD;clear hr;obtain⟨a0,a1,a2,a3,a4,a5, -, -, -, -, -, -, -, -, -, -, -, -, -, -, -, -,al⟩:=HD9.out.ac.a11;simp at a0 a1 a2 a3 a4 a5;go_wp2_with fail;refine HBY.out.mono ?_;rintro e w10 ⟨rfl,hF,a',es',hK'⟩;have HD10:=Lib.hid (HD9.out.next hK' hF);clear hK' hF HBY HD9 al a0 a1 a2 a3 a4 a5;obtain⟨kk,kr⟩:=r;obtain⟨rc,rn,rd⟩:=kr;obtain⟨o0,o1,o2,of0,of1,of2,ol⟩:=HD10.out.ot.a3;simp at o0 o1 o2;go_wp2;go_meet;exact⟨_,_,_,_,_,_,_,((HD10.out.set_ 0 (.int .i64 rc) (v0:=rc) (v1:=0) (t:=⟨#[]⟩) rfl).set_ 1 (.int .i64 rn) (v0:=rc) (v1:=rn) (t:=⟨#[]⟩) rfl).set_ 2 (.string rd) (v0:=rc) (v1:=rn) (t:=rd) rfl,HVD.out⟩
 case rest=>
  obtain⟨a',ms',es',kk,rc,rn,rd,hD,hvd⟩:=hcut;have HVD:=Lib.hid hvd;clear hvd HD9 HK0 x0 xl;go_upto_region 39 with fail
  obtain⟨d0,d1,d2,d3,d4⟩:=hD.ks.c5;have gl:=hD.ks.blk.lt;obtain⟨ck,hkb,hks⟩:=hD.rk;obtain⟨rl,⟨_,r0⟩,⟨_,r1⟩,⟨_,r2⟩,⟨_,r3⟩,⟨_,r4⟩⟩:=blk5 hkb hks;obtain⟨-, -, -, -, -,rf0,rf1,rf2,rf3,rf4, -⟩:=hkb.a5;obtain⟨q0,q1,q2,qf0,qf1,qf2,ql⟩:=hD.ra.a3;simp at q0 q1 q2;obtain⟨o0,o1,o2, -, -, -,ol⟩:=hD.ot.a3;simp at o0 o1 o2;have hbo:=hD.bo3;have hbk:=hD.bk3;have hne1:bo≠w.heap.size+2:=by omega
  have hne2:bo≠w.heap.size+3:=by omega
  have hne3:bk≠w.heap.size+2:=by omega
  have hne4:bk≠w.heap.size+3:=by omega
  have HD:=Lib.hid hD;clear hD hkb hks;go_region
  all_goals
   go_wp2;refine bodyPost_ret (v:= .tuple #[.agg #[.slice a'.a0 kk.mods.length a'.c0, .slice a'.a1 kk.mem.length a'.c1, .slice a'.a2 kk.nodes.length a'.c2, .slice a'.a3 kk.pipes.length a'.c3, .slice a'.a4 kk.procs.length a'.c4], .agg #[.int .i64 (rc), .int .i64 (rn), .string (rd)], .int .i64 0]) (by simp[results,Tryz.results10,go_sem,r0,r1,r2,r3,r4,q0,q1,q2]) rfl ?_;exact(HD.out.fin HV.out HVD.out rfl).drew
theorem Tz5 (HR:RunC 102) (k:Krn) (a:KA) (x:Akt) (w:World) (hK:KrnAt w w.heap.size a k) (hS:k.small) (ht:Tab w) (hn:x.name.size≤maxLen) (hd:x.data.size≤maxLen):
  Calls Tryz.prog 10 #[.agg (a.cells k), .agg x.cells] w (DoPost w k x):=Qzf HR k a x.kind x.p x.n x.m x.name x.data w hK hS ht hn hd
end Go.Proofs.YtdjamdbamkhblacGreatDoor
namespace Go.Proofs.YtdjamdbamkhblacGreatDoor
open Go.RowKit
structure Two (w0 wr:World) (a a':KA) (k:Krn):Prop where
 below:Below w0.heap.size w0 wr
 lt:w0.heap.size+1<wr.heap.size
 b0:BoxK wr w0.heap.size a k
 b1:BoxK wr (w0.heap.size+1) a' k
theorem Two.next {w0 wr wx:World} {a a':KA} {k:Krn} (h:Two w0 wr a a' k) (hb:Below wr.heap.size wr wx):Two w0 wx a a' k:=
 ⟨h.below.trans (hb.mono h.below.size),Nat.lt_of_lt_of_le h.lt hb.size,h.b0.below hb (Nat.lt_of_succ_lt h.lt),h.b1.below hb h.lt⟩
theorem Two.drewN {w0 wr:World} {a a':KA} {k:Krn} (h:Two w0 wr a a' k) (n:Nat):Two w0 (wr.drewN n) a a' k:=h.next (below_drewN wr n)
theorem Ozl (k:Krn) (a a':KA) (w:World) (hk:KrnAt w w.heap.size a k) (hk':KrnAt w w.heap.size a' k):
  Calls Tryz.prog 6 #[.agg (a.cells k), .agg (a'.cells k)] w fun e w'=>e= .returned (.bool true)∧Below w.heap.size w w':=by
 have hW:Below w.heap.size w ((w.alloc (.cells (a.cells k) 30)).alloc (.cells (a'.cells k) 30)):=((Below.refl w.heap.size w).alloc (Nat.le_refl _) _).alloc (by simp) _;have hT:Two w ((w.alloc (.cells (a.cells k) 30)).alloc (.cells (a'.cells k) 30)) a a' k:=
  ⟨hW,by simp,⟨by simp[KA.cells],by simp[KA.cells],by simp[KA.cells],by simp[KA.cells],by simp[KA.cells]⟩,⟨by simp[KA.cells],by simp[KA.cells],by simp[KA.cells],by simp[KA.cells],by simp[KA.cells]⟩⟩
 have HT:=Lib.hid hT;have HW:=Lib.hid hW;have l0:k.mods.length≤9223372036854775807:=by have:=hk.l0;omega
 have l1:k.mem.length≤maxLen:=by have:=hk.l1;simp[maxLen];omega
 have l2:k.nodes.length≤9223372036854775807:=by have:=hk.l2;omega
 have l3:k.pipes.length≤9223372036854775807:=by have:=hk.l3;omega
 have l4:k.procs.length≤9223372036854775807:=by have:=hk.l4;omega
 have HK:=Lib.hid hk;have HK':=Lib.hid hk';clear hT hW hk hk';unfold KA.cells;go_enter Tryz.func6,Tryz.ntmps6;go_wp2_with (go_at_call 11;refine(Fzu a.a1 a'.a1 a.c1 a'.c1 k.mem _ ?h1 ?h2 l1).mono ?_;(case h1=>exact(HK.out.mem.below HW.out).more HW.out.size);(case h2=>exact(HK'.out.mem.below HW.out).more HW.out.size);rintro e w1 ⟨rfl,n1,rfl⟩);go_loopw [5] (fun i wr=>Cnt k.mods.length i fun _=>Two w wr a a' k) (fun i _=>k.mods.length - (intOf i).toNat)
 case atStart=>exact⟨0,Nat.zero_le _,rfl,HT.out.drewN _⟩
 case round=>
  obtain⟨i,hi,rfl,hT⟩:=hrel;obtain⟨⟨x0,x1,x2,x3,x4⟩,hlt,⟨y0,y1,y2,y3,y4⟩⟩:=And.intro hT.b0 (And.intro hT.lt hT.b1);have HT1:=Lib.hid hT;clear hT;by_cases hil:i<k.mods.length
  ·obtain⟨b,o,e1,hb,hc⟩:=(HK.out.mods.below HT1.out.below) (by omega)
   obtain⟨b',o',e1',hb',hc'⟩:=(HK'.out.mods.below HT1.out.below) (by omega);obtain⟨A1,c1,A2,c2,z0,z1,z2,z3⟩:=hc i hil;obtain⟨A1',c1',A2',c2',z0',z1',z2',z3'⟩:=hc' i hil;rw[e1] at x0;rw[e1'] at y0;clear hc hc' e1 e1';have hsz:=HT1.out.below.size;have Z3:=Lib.hid (z3.more hsz);have Z3':=Lib.hid (z3'.more hsz);have q0:b<wr.heap.size:=by omega
   have q1:b'<wr.heap.size:=by omega
   have q2:w.heap.size<wr.heap.size:=by omega
   clear z3 z3' hsz hb hb';generalize k.mods[i]=m at*;go_wp2_with fail;go_region_held3 (fun w'=>w'.cell? ⟨w.heap.size,0,none⟩=some (.slice (some ⟨b,o,none⟩) k.mods.length a.c0)∧w'.cell? ⟨w.heap.size+1,0,none⟩=some (.slice (some ⟨b',o',none⟩) k.mods.length a'.c0)∧
     w'.cell? ⟨b,o+i*3,none⟩=some (.string m.name)∧w'.cell? ⟨b,o+i*3+1,none⟩=some (.slice A1 m.code.length c1)∧w'.cell? ⟨b,o+i*3+2,none⟩=some (.slice A2 m.data.length c2)∧
     w'.cell? ⟨b',o'+i*3,none⟩=some (.string m.name)∧w'.cell? ⟨b',o'+i*3+1,none⟩=some (.slice A1' m.code.length c1')∧w'.cell? ⟨b',o'+i*3+2,none⟩=some (.slice A2' m.data.length c2'))
    (first
      | (go_split_ands;refine⟨?_,?_,?_,?_,?_,?_,?_,?_⟩<;>exact(hq1 _ _ (by assumption)).trans (by assumption))
      | go_keep)
    (first
      | (go_at_call 12;refine(Gzr m A1 A2 A1' A2' c1 c2 c1' c2' wr.drew Z3.out.code Z3'.out.code Z3.out.data Z3'.out.data ?h1 ?h2).mono ?_;(case h1=>have:=Z3.out.cl;simp[maxLen];omega);(case h2=>have:=Z3.out.dl;simp[maxLen];omega);rintro e w1 ⟨rfl,hb1⟩;have hq1:∀ b o,b<wr.heap.size→w1.cell? ⟨b,o,none⟩=wr.cell? ⟨b,o,none⟩:=(Ize hb1).1))
   have hT2:=Lib.hid (HT1.out.next (wx:=w1) ((Below.refl wr.heap.size wr).drew.trans hb1));go_wp2;exact⟨⟨i+1,by omega,by go_num,hT2.out⟩,by simp[intOf];omega⟩
  ·go_wp2
   go_loopw [6] (fun i wr=>Cnt k.nodes.length i fun _=>Two w wr a a' k) (fun i _=>k.nodes.length - (intOf i).toNat)
   case atStart=>exact⟨0,Nat.zero_le _,rfl,HT1.out⟩
   case round=>
    clear x0 x1 x2 x3 x4 y0 y1 y2 y3 y4 hlt;clear HT1;obtain⟨i,hi,rfl,hT⟩:=hrel;obtain⟨⟨x0,x1,x2,x3,x4⟩,hlt,⟨y0,y1,y2,y3,y4⟩⟩:=And.intro hT.b0 (And.intro hT.lt hT.b1);have HT1:=Lib.hid hT;clear hT;by_cases hil:i<k.nodes.length
    ·obtain⟨b,o,e1,hb,hc⟩:=(HK.out.nodes.below HT1.out.below) (by omega)
     obtain⟨b',o',e1',hb',hc'⟩:=(HK'.out.nodes.below HT1.out.below) (by omega);obtain⟨z0,z1,z2,z3⟩:=hc i hil;obtain⟨z0',z1',z2',z3'⟩:=hc' i hil;rw[e1] at x2;rw[e1'] at y2;clear hc hc' e1 e1';generalize k.nodes[i]=m at*;go_wp2_with fail;go_quiet (fail);go_wp2;exact⟨⟨i+1,by omega,by go_num,HT1.out.drewN _⟩,by simp[intOf];omega⟩
    ·go_wp2
     go_loopw [7] (fun i wr=>Cnt k.pipes.length i fun _=>Two w wr a a' k) (fun i _=>k.pipes.length - (intOf i).toNat)
     case atStart=>exact⟨0,Nat.zero_le _,rfl,HT1.out⟩
     case round=>
      clear x0 x1 x2 x3 x4 y0 y1 y2 y3 y4 hlt;clear HT1;obtain⟨i,hi,rfl,hT⟩:=hrel;obtain⟨⟨x0,x1,x2,x3,x4⟩,hlt,⟨y0,y1,y2,y3,y4⟩⟩:=And.intro hT.b0 (And.intro hT.lt hT.b1);have HT1:=Lib.hid hT;clear hT;by_cases hil:i<k.pipes.length
      ·obtain⟨b,o,e1,hb,hc⟩:=(HK.out.pipes.below HT1.out.below) (by omega)
       obtain⟨b',o',e1',hb',hc'⟩:=(HK'.out.pipes.below HT1.out.below) (by omega);have z0:=hc i hil;have z0':=hc' i hil;rw[e1] at x3;rw[e1'] at y3;clear hc hc' e1 e1';generalize k.pipes[i]=m at*;go_wp2_with fail;go_quiet (fail);go_wp2;exact⟨⟨i+1,by omega,by go_num,HT1.out.drewN _⟩,by simp[intOf];omega⟩
      ·go_wp2
       go_loopw [8,9] (fun i _ wr=>Cnt k.procs.length i fun _=>Two w wr a a' k) (fun i _ _=>k.procs.length - (intOf i).toNat)
       case atStart=>exact⟨0,Nat.zero_le _,rfl,HT1.out⟩
       case round=>
        clear x0 x1 x2 x3 x4 y0 y1 y2 y3 y4 hlt;clear HT1;obtain⟨i,hi,rfl,hT⟩:=hrel;obtain⟨⟨x0,x1,x2,x3,x4⟩,hlt,⟨y0,y1,y2,y3,y4⟩⟩:=And.intro hT.b0 (And.intro hT.lt hT.b1);have HT1:=Lib.hid hT;clear hT;by_cases hil:i<k.procs.length
        ·obtain⟨b,o,e1,hb,hc⟩:=(HK.out.procs.below HT1.out.below) (by omega)
         obtain⟨b',o',e1',hb',hc'⟩:=(HK'.out.procs.below HT1.out.below) (by omega);obtain⟨A1,c1,z0,z1,z2⟩:=hc i hil;obtain⟨A1',c1',z0',z1',z2'⟩:=hc' i hil;have Z2:=Lib.hid z2;have Z2':=Lib.hid z2';rw[e1] at x4;rw[e1'] at y4;clear hc hc' e1 e1' z2 z2';generalize k.procs[i]=m at*;have le:m.ends.length≤9223372036854775807:=by have:=Z2.out.el;omega
         go_wp2_with fail;go_quiet (fail);go_wp2;obtain⟨wo,rfl⟩:∃ wo:World,wo=wr:=⟨_,rfl⟩;go_loopw [9] (fun j wx=>Cnt m.ends.length j fun _=>Two w wx a a' k∧Below wo.heap.size wo wx) (fun j _=>m.ends.length - (intOf j).toNat)
         case atStart=>exact⟨0,Nat.zero_le _,rfl,HT1.out.drewN _,below_drewN wo _⟩
         case round=>
          clear x0 x1 x2 x3 y0 y1 y2 y3 hlt;obtain⟨j,hj,rfl,hT,hbx⟩:=hrel;have hz:=HT1.out.lt;have hzz:=HT1.out.below.size;have u0:=(hbx.cell (p:=⟨w.heap.size,4,none⟩) (by simp;omega)).trans x4;have u1:=(hbx.cell (p:=⟨w.heap.size+1,4,none⟩) (by simp;omega)).trans y4;have u2:=(hbx.cell (p:=⟨b,o+i*2+1,none⟩) (by simp;omega)).trans z1;have u3:=(hbx.cell (p:=⟨b',o'+i*2+1,none⟩) (by simp;omega)).trans z1';have HT2:=Lib.hid hT;clear hT x4 y4 z0 z1 z0' z1';by_cases hjl:j<m.ends.length
          ·obtain⟨d,q,e1,hd,hc⟩:=(Z2.out.ends.below (hbx.mono hzz)) (by omega)
           obtain⟨d',q',e1',hd',hc'⟩:=(Z2'.out.ends.below (hbx.mono hzz)) (by omega);obtain⟨v0,v1,v2⟩:=hc j hjl;obtain⟨v0',v1',v2'⟩:=hc' j hjl;rw[e1] at u2;rw[e1'] at u3;have HBX:=Lib.hid hbx;clear hc hc' e1 e1' hz hzz hbx;generalize m.ends[j]=x at*;go_wp2_with fail;go_quiet (fail);go_wp2;exact⟨⟨j+1,by omega,by go_num,HT2.out.drewN _,(HBX.out.trans ((below_drewN _ _).mono HBX.out.size))⟩,by simp[intOf];omega⟩
          ·have HBX:=Lib.hid hbx
           clear hz hzz hbx;go_wp2;exact⟨⟨i+1,by omega,by go_num,HT2.out⟩,by simp[intOf];omega⟩
        ·go_wp2
         go_ret;exact⟨rfl,HT1.out.below⟩
set_option linter.unusedVariables false
set_option linter.unusedSimpArgs false
def nilK:Krn:=⟨[],[],[],[],[]⟩
theorem Tze (w:World) (B:Nat):KrnAt w B ⟨none,0,none,0,none,0,none,0,none,0⟩ nilK:=
 ⟨fun h=>absurd h (by decide),fun h=>absurd h (by decide),fun h=>absurd h (by decide),fun h=>absurd h (by decide),fun h=>absurd h (by decide),by decide,by decide,by decide,by decide,by decide,fun _=>⟨rfl,rfl⟩,fun _=>⟨rfl,rfl⟩,fun _=>⟨rfl,rfl⟩,fun _=>⟨rfl,rfl⟩,fun _=>⟨rfl,rfl⟩⟩
theorem krn5 {W:World} {q:Nat} {a:KA} {k:Krn} (h:Blk W q 30 (a.cells k)):q<W.heap.size∧W.cell? ⟨q,0,none⟩=some (.slice a.a0 k.mods.length a.c0)∧W.cell? ⟨q,1,none⟩=some (.slice a.a1 k.mem.length a.c1)∧W.cell? ⟨q,2,none⟩=some (.slice a.a2 k.nodes.length a.c2)∧W.cell? ⟨q,3,none⟩=some (.slice a.a3 k.pipes.length a.c3)∧W.cell? ⟨q,4,none⟩=some (.slice a.a4 k.procs.length a.c4):=
 ⟨h.lt,h.cell 0,h.cell 1,h.cell 2,h.cell 3,h.cell 4⟩
structure KIn (W:World) (q:Nat) (a:KA) (k:Krn):Prop where
 bk:Blk W q 30 (a.cells k)
 kn:KrnAt W W.heap.size a k
theorem KIn.below {W W':World} {q:Nat} {a:KA} {k:Krn} (h:KIn W q a k) (hb:Below W.heap.size W W'):KIn W' q a k:=⟨h.bk.below hb h.bk.lt,(h.kn.below hb).more hb.size⟩
theorem KIn.new {W:World} {a:KA} {k:Krn} (h:KrnAt W W.heap.size a k):KIn (W.alloc (.cells (a.cells k) 30)) W.heap.size a k:=by
 have hb:=Az6 W (.cells (a.cells k) 30);exact⟨Blk.new _ _ _,(h.below hb).more hb.size⟩
end Go.Proofs.YtdjamdbamkhblacGreatDoor
