/- The walk of kern.Do: what it answers, for every kernel and act. Condition: the listed table, the run's contract (RunC). By an AI agent (xdo2.py). The walks of the reference's nodeAt and freeEnd. No condition. The walk of the reference's tidied. No condition. The reference's byProcess: what its walks share. No condition. By an AI agent (xrby.py). -/
import Derived.StillTailTactics
import Derived.Test.YtdjamdbamkhblacGreatDoorG21
import Derived.Test.YtdjamdbamkhblacGreatDoorKCheckW
set_option maxHeartbeats 16000000
set_option maxRecDepth 100000
namespace Go.Proofs.YtdjamdbamkhblacGreatDoor
open Go.RowKit
set_option linter.unusedVariables false
set_option linter.unusedSimpArgs false
attribute [local go_sem] After.cell
theorem DoAt.fin {w W:World} {a:KA} {k:Krn} {ms:List (Value × Value)} {es:List Value} {cs:Array Value} {bw bo:Nat} {u0 u1:Int} {s:ByteArray} (h:DoAt w W a k ms es cs bw bo u0 u1 s) {k0:Krn} {x:Akt} (he:doE k0 x=0) (hr:doK k0 x=(k,⟨u0,u1,s⟩)) {W':World}
  (hW:W'=(((lay5 W (w.heap.size+2) (.slice a.a0 k.mods.length a.c0) (.slice a.a1 k.mem.length a.c1) (.slice a.a2 k.nodes.length a.c2) (.slice a.a3 k.pipes.length a.c3) (.slice a.a4 k.procs.length a.c4)).setCell ⟨w.heap.size+3,0,none⟩ (.int .i64 u0)).setCell ⟨w.heap.size+3,1,none⟩ (.int .i64 u1)).setCell ⟨w.heap.size+3,2,none⟩ (.string s)):
  DoPost w k0 x (.returned (.tuple #[.agg #[.slice a.a0 k.mods.length a.c0, .slice a.a1 k.mem.length a.c1, .slice a.a2 k.nodes.length a.c2, .slice a.a3 k.pipes.length a.c3, .slice a.a4 k.procs.length a.c4], .agg #[.int .i64 u0, .int .i64 u1, .string s], .int .i64 0])) W':=by
 obtain⟨c5,h5,e5⟩:=h.rk;unfold DoPost;rw[hr];obtain⟨WL,hWL⟩:∃ WL,WL=lay5 W (w.heap.size+2) (.slice a.a0 k.mods.length a.c0) (.slice a.a1 k.mem.length a.c1) (.slice a.a2 k.nodes.length a.c2) (.slice a.a3 k.pipes.length a.c3) (.slice a.a4 k.procs.length a.c4):=⟨_,rfl⟩;rw[←hWL] at hW;have g:=Bz8 W (w.heap.size+2) (.slice a.a0 k.mods.length a.c0) (.slice a.a1 k.mem.length a.c1) (.slice a.a2 k.nodes.length a.c2) (.slice a.a3 k.pipes.length a.c3) (.slice a.a4 k.procs.length a.c4);rw[←hWL] at g;have t1:Tch 30 W WL:=⟨g.os,g.tape,g.output,g.size,fun q hq hne=>g.block q hq fun e=>by
  injection e with e
  subst e;exact hne _ _ h5⟩
 have b1:Below w.heap.size W WL:=⟨g.os,g.tape,g.output,g.size,fun q hq=>g.block q (by have:=h.ks.blk.lt;omega) (fun e=>by injection e with e;omega)⟩;have r0:=h.ra.tch t1 (by decide);have t2:=Tch.of_set (p:=⟨w.heap.size+3,0,none⟩) r0 (.int .i64 u0);have r1:=r0.set_ 0 (.int .i64 u0);have t3:=Tch.of_set (p:=⟨w.heap.size+3,1,none⟩) r1 (.int .i64 u1);have r2:=r1.set_ 1 (.int .i64 u1);have t4:=Tch.of_set (p:=⟨w.heap.size+3,2,none⟩) r2 (.string s);have hC:=((h.ks.cp.tch t1 (by decide) (by decide) (by decide) (by decide) (by decide) (by decide) (by decide)).tch ((t2.trans t3).trans t4) (by decide) (by decide) (by decide) (by decide) (by decide) (by decide) (by decide));rw[←hW] at hC;refine⟨?_, .inr ⟨he,a,ms,es,rfl,hC,h.ks.fits⟩⟩;rw[hW];exact(((h.fr.trans b1).setCell (p:=⟨w.heap.size+3,0,none⟩) (Nat.le_add_right _ 3) _).setCell (p:=⟨w.heap.size+3,1,none⟩) (Nat.le_add_right _ 3) _).setCell (p:=⟨w.heap.size+3,2,none⟩) (Nat.le_add_right _ 3) _
theorem DoPost.drew {w W:World} {k:Krn} {x:Akt} {e:Ending} (h:DoPost w k x e W):DoPost w k x e W.drew:=
 ⟨Below.drewN' h.1 1,by
   rcases h.2 with h|⟨h1,a',ms,es,h2,h3,h4⟩
   ·exact .inl h
   ·exact .inr ⟨h1,a',ms,es,h2,h3.below (Below.drewN' (Below.refl _ _) 1),h4⟩⟩
theorem blk5 {W:World} {q:Nat} {t:TypeId} {cs:Array Value} (h:Blk W q t cs) (hs:cs.size=5):q<W.heap.size∧(∃ u,W.cell? ⟨q,0,none⟩=some u)∧(∃ u,W.cell? ⟨q,1,none⟩=some u)∧(∃ u,W.cell? ⟨q,2,none⟩=some u)∧(∃ u,W.cell? ⟨q,3,none⟩=some u)∧(∃ u,W.cell? ⟨q,4,none⟩=some u):=by
 have e:∀ i,i<5→∃ u,W.cell? ⟨q,i,none⟩=some u:=fun i hi=>⟨cs[i],by rw[h.cell,Array.getElem?_eq_getElem (by omega)]⟩
 exact⟨h.lt,e 0 (by omega),e 1 (by omega),e 2 (by omega),e 3 (by omega),e 4 (by omega)⟩
theorem Lzx (k:Krn) (s:ByteArray):(Bzf k s).2.data=noS:=by
 unfold Bzf;split
 ·rfl
 ·split
  ·rfl
  ·split
   ·rfl
   ·rfl
theorem Nze (k:Krn) (s:ByteArray) (x:Nod):(Cze k s x).2.data=noS:=by
 unfold Cze;split
 ·split
  ·rfl
  ·split
   ·rfl
   ·split
    ·rfl
    ·rfl
 ·rfl
theorem Sz6 (HR:RunC 96) (k:Krn) (a:KA) (kd xp xn xm:Int) (nm dt:ByteArray) (w:World) (hK:KrnAt w w.heap.size a k) (hS:k.small) (hC:a.caps k) (ht:Tab w) (hn:nm.size≤maxLen) (hd:dt.size≤maxLen):
  Calls Tryz.prog 8 #[.agg (a.cells k), .agg (⟨kd,xp,xn,xm,nm,dt⟩:Akt).cells] w (DoPost w k ⟨kd,xp,xn,xm,nm,dt⟩):=by
 show Calls _ _ #[.agg #[.slice a.a0 k.mods.length a.c0, .slice a.a1 k.mem.length a.c1, .slice a.a2 k.nodes.length a.c2, .slice a.a3 k.pipes.length a.c3, .slice a.a4 k.procs.length a.c4], .agg #[.int .i64 kd, .int .i64 xp, .int .i64 xn, .int .i64 xm, .string nm, .string dt]] _ _;have HR':=Lib.hid HR;have HK0:=Lib.hid hK;have HS0:=Lib.hid hS;have HC0:=Lib.hid hC;have HT0:=Lib.hid ht;have HN:=Lib.hid hn;have HDT:=Lib.hid hd;have HTL:=Lib.hid (show 0<w.heap.size from ht.1);clear HR hK hS hC ht hn hd;go_enter Tryz.func8,Tryz.ntmps8;go_upto_region 1 with fail
 refine(show ∀ W:World,W=((((w.alloc (.cells (a.cells k) 30)).alloc (.cells #[.int .i64 kd, .int .i64 xp, .int .i64 xn, .int .i64 xm, .string nm, .string dt] 40)).alloc (.cells #[.slice none 0 0, .slice none 0 0, .slice none 0 0, .slice none 0 0, .slice none 0 0] 30)).alloc (.cells #[.int .i64 0, .int .i64 0, .string ⟨#[]⟩] 36))→Code.wp _ _ _ _ W from ?_) _ rfl;intro W0 hW0;have hn:W0.heap.size=w.heap.size+4:=by rw[hW0];simp
 have b0:Blk W0 w.heap.size 30 (a.cells k):=by rw[hW0];exact(((Blk.new w _ _).alloc _).alloc _).alloc _
 have b1:Blk W0 (w.heap.size+1) 40 #[.int .i64 kd, .int .i64 xp, .int .i64 xn, .int .i64 xm, .string nm, .string dt]:=by rw[hW0];exact((Blk.new' (by simp)).alloc _).alloc _
 have b2:Blk W0 (w.heap.size+2) 30 #[.slice none 0 0, .slice none 0 0, .slice none 0 0, .slice none 0 0, .slice none 0 0]:=by rw[hW0];exact(Blk.new' (by simp)).alloc _
 have b3:Blk W0 (w.heap.size+3) 36 #[.int .i64 0, .int .i64 0, .string ⟨#[]⟩]:=by rw[hW0];exact Blk.new' (by simp)
 have hb0:Below w.heap.size w W0:=by
  rw[hW0];exact((((Below.refl w.heap.size w).alloc (Nat.le_refl _) _).alloc (by simp) _).alloc (by simp;omega) _).alloc (by simp;omega) _
 have HW0:=Lib.hid hW0;have HCK:=Lib.hid (Lzj k a W0 ((HK0.out.below hb0).more (by omega)) HS0.out HC0.out (HT0.out.below hb0));have HB:=Lib.hid (show W0.heap.size=w.heap.size+4∧Below w.heap.size w W0 from ⟨hn,hb0⟩);have B0:=Lib.hid b0;have B1:=Lib.hid b1;have B2:=Lib.hid b2;have B3:=Lib.hid b3;obtain⟨c0,c1,c2,c3,c4⟩:W0.cell? ⟨w.heap.size,0,none⟩=some (.slice a.a0 k.mods.length a.c0)∧W0.cell? ⟨w.heap.size,1,none⟩=some (.slice a.a1 k.mem.length a.c1)∧W0.cell? ⟨w.heap.size,2,none⟩=some (.slice a.a2 k.nodes.length a.c2)∧W0.cell? ⟨w.heap.size,3,none⟩=some (.slice a.a3 k.pipes.length a.c3)∧W0.cell? ⟨w.heap.size,4,none⟩=some (.slice a.a4 k.procs.length a.c4):=⟨b0.cell 0,b0.cell 1,b0.cell 2,b0.cell 3,b0.cell 4⟩;have cl:=b0.lt;clear hW0 hn b0 b1 b2 b3 hb0;unfold KA.cells at HCK;go_wp2_with fail;refine HCK.out.mono ?_;rintro e w1 ⟨rfl,hb1⟩;clear HCK c0 c1 c2 c3 c4 cl;have HB1:=Lib.hid hb1;have D0:=Lib.hid (B0.out.below hb1 B0.out.lt);have D1:=Lib.hid (B1.out.below hb1 B1.out.lt);have D2:=Lib.hid (B2.out.below hb1 B2.out.lt);have D3:=Lib.hid (B3.out.below hb1 B3.out.lt);have HBW:=Lib.hid (HB.out.2.trans (hb1.mono (by have:=HB.out.1;omega)));clear hb1 B0 B1 B2 B3;by_cases hk:Azm k=0
 rotate_left
 ·have hne:(Azm k != 0)=true:=by rw[bne_iff_ne];exact hk
  have HV:Hid (doE k ⟨kd,xp,xn,xm,nm,dt⟩≠0∧doE k ⟨kd,xp,xn,xm,nm,dt⟩=Azm k):=by
   have:doE k ⟨kd,xp,xn,xm,nm,dt⟩=Azm k:=by unfold doE;rw[if_neg hk]
   exact⟨by rw[this];exact hk,this⟩
  clear hk;obtain⟨r0,r1,r2,r3,r4,rf0,rf1,rf2,rf3,rf4,rl⟩:=D2.out.a5;simp at r0 r1 r2 r3 r4;obtain⟨q0,q1,q2,qf0,qf1,qf2,ql⟩:=D3.out.a3;simp at q0 q1 q2;go_wp2;refine bodyPost_ret (v:= .tuple #[.agg #[.slice none 0 0, .slice none 0 0, .slice none 0 0, .slice none 0 0, .slice none 0 0], .agg #[.int .i64 0, .int .i64 0, .string ⟨#[]⟩], .int .i64 (Azm k)]) (by simp[results,Tryz.results8,go_sem,r0,r1,r2,r3,r4,q0,q1,q2]) rfl ?_;refine⟨?_, .inl ⟨HV.out.1,by rw[HV.out.2]⟩⟩;exact((((((((HBW.out.setCell (p:=⟨w.heap.size+2,0,none⟩) (Nat.le_add_right _ 2) _).setCell (p:=⟨w.heap.size+2,1,none⟩) (Nat.le_add_right _ 2) _).setCell (p:=⟨w.heap.size+2,2,none⟩) (Nat.le_add_right _ 2) _).setCell (p:=⟨w.heap.size+2,3,none⟩) (Nat.le_add_right _ 2) _).setCell (p:=⟨w.heap.size+2,4,none⟩) (Nat.le_add_right _ 2) _).setCell (p:=⟨w.heap.size+3,0,none⟩) (Nat.le_add_right _ 3) _).setCell (p:=⟨w.heap.size+3,1,none⟩) (Nat.le_add_right _ 3) _).setCell (p:=⟨w.heap.size+3,2,none⟩) (Nat.le_add_right _ 3) _)
 rw[hk];obtain⟨a0, -, -, -,al⟩:=D1.out.a2;simp at a0;by_cases h1:kd<1
 ·have q1:decide (kd<1)=true:=decide_eq_true h1
  have HV:Hid (doE k ⟨kd,xp,xn,xm,nm,dt⟩≠0∧doE k ⟨kd,xp,xn,xm,nm,dt⟩=3):=by
   have:doE k ⟨kd,xp,xn,xm,nm,dt⟩=3:=by unfold doE;rw[if_pos hk,if_pos (.inl h1)]
   exact⟨by rw[this];decide,this⟩
  clear hk h1;obtain⟨r0,r1,r2,r3,r4,rf0,rf1,rf2,rf3,rf4,rl⟩:=D2.out.a5;simp at r0 r1 r2 r3 r4;obtain⟨q0,q1,q2,qf0,qf1,qf2,ql⟩:=D3.out.a3;simp at q0 q1 q2;go_wp2;refine bodyPost_ret (v:= .tuple #[.agg #[.slice none 0 0, .slice none 0 0, .slice none 0 0, .slice none 0 0, .slice none 0 0], .agg #[.int .i64 0, .int .i64 0, .string ⟨#[]⟩], .int .i64 3]) (by simp[results,Tryz.results8,go_sem,r0,r1,r2,r3,r4,q0,q1,q2]) rfl ?_;refine⟨?_, .inl ⟨HV.out.1,by rw[HV.out.2]⟩⟩;exact((((((((HBW.out.setCell (p:=⟨w.heap.size+2,0,none⟩) (Nat.le_add_right _ 2) _).setCell (p:=⟨w.heap.size+2,1,none⟩) (Nat.le_add_right _ 2) _).setCell (p:=⟨w.heap.size+2,2,none⟩) (Nat.le_add_right _ 2) _).setCell (p:=⟨w.heap.size+2,3,none⟩) (Nat.le_add_right _ 2) _).setCell (p:=⟨w.heap.size+2,4,none⟩) (Nat.le_add_right _ 2) _).setCell (p:=⟨w.heap.size+3,0,none⟩) (Nat.le_add_right _ 3) _).setCell (p:=⟨w.heap.size+3,1,none⟩) (Nat.le_add_right _ 3) _).setCell (p:=⟨w.heap.size+3,2,none⟩) (Nat.le_add_right _ 3) _)
 by_cases h11:11<kd
 ·have q1:decide (kd<1)=false:=decide_eq_false (by omega)
  have q2:decide (11<kd)=true:=decide_eq_true h11;have HV:Hid (doE k ⟨kd,xp,xn,xm,nm,dt⟩≠0∧doE k ⟨kd,xp,xn,xm,nm,dt⟩=3):=by
   have:doE k ⟨kd,xp,xn,xm,nm,dt⟩=3:=by unfold doE;rw[if_pos hk,if_pos (.inr h11)]
   exact⟨by rw[this];decide,this⟩
  clear hk h1 h11;obtain⟨r0,r1,r2,r3,r4,rf0,rf1,rf2,rf3,rf4,rl⟩:=D2.out.a5;simp at r0 r1 r2 r3 r4;obtain⟨q0,q1,q2,qf0,qf1,qf2,ql⟩:=D3.out.a3;simp at q0 q1 q2;go_wp2;refine bodyPost_ret (v:= .tuple #[.agg #[.slice none 0 0, .slice none 0 0, .slice none 0 0, .slice none 0 0, .slice none 0 0], .agg #[.int .i64 0, .int .i64 0, .string ⟨#[]⟩], .int .i64 3]) (by simp[results,Tryz.results8,go_sem,r0,r1,r2,r3,r4,q0,q1,q2]) rfl ?_;refine⟨?_, .inl ⟨HV.out.1,by rw[HV.out.2]⟩⟩;exact((((((((HBW.out.setCell (p:=⟨w.heap.size+2,0,none⟩) (Nat.le_add_right _ 2) _).setCell (p:=⟨w.heap.size+2,1,none⟩) (Nat.le_add_right _ 2) _).setCell (p:=⟨w.heap.size+2,2,none⟩) (Nat.le_add_right _ 2) _).setCell (p:=⟨w.heap.size+2,3,none⟩) (Nat.le_add_right _ 2) _).setCell (p:=⟨w.heap.size+2,4,none⟩) (Nat.le_add_right _ 2) _).setCell (p:=⟨w.heap.size+3,0,none⟩) (Nat.le_add_right _ 3) _).setCell (p:=⟨w.heap.size+3,1,none⟩) (Nat.le_add_right _ 3) _).setCell (p:=⟨w.heap.size+3,2,none⟩) (Nat.le_add_right _ 3) _)
 have HK1:=Lib.hid hk;have q1:decide (kd<1)=false:=decide_eq_false (by omega);have q2:decide (11<kd)=false:=decide_eq_false (by omega);have HKD:=Lib.hid (show 1≤kd∧kd≤11 from ⟨by omega,by omega⟩);have HV:Hid (doE k ⟨kd,xp,xn,xm,nm,dt⟩=0):=by show _=_;unfold doE;rw[if_pos HK1.out,if_neg (by simp only;omega)]
 clear hk h1 h11;have HKO:=Lib.hid ((Dzt k).1 HK1.out);obtain⟨c0,c1,c2,c3,c4⟩:w1.cell? ⟨w.heap.size,0,none⟩=some (.slice a.a0 k.mods.length a.c0)∧w1.cell? ⟨w.heap.size,1,none⟩=some (.slice a.a1 k.mem.length a.c1)∧w1.cell? ⟨w.heap.size,2,none⟩=some (.slice a.a2 k.nodes.length a.c2)∧w1.cell? ⟨w.heap.size,3,none⟩=some (.slice a.a3 k.pipes.length a.c3)∧w1.cell? ⟨w.heap.size,4,none⟩=some (.slice a.a4 k.procs.length a.c4):=⟨D0.out.cell 0,D0.out.cell 1,D0.out.cell 2,D0.out.cell 3,D0.out.cell 4⟩;have cl:=D0.out.lt;have HCP:=Lib.hid (Ozm k a w1 ((HK0.out.below HBW.out).more HBW.out.size));unfold KA.cells at HCP;go_wp2_with fail;refine HCP.out.mono ?_;rintro e w2 ⟨V0,V1,V2,V3,V4,ms,es,rfl,hCp,hb2⟩;obtain⟨A0,k0,rfl⟩:=Az1 hCp.mods;obtain⟨A1,k1,rfl⟩:=Az1 hCp.mem;obtain⟨A2,k2,rfl⟩:=Az1 hCp.nodes;obtain⟨A3,k3,rfl⟩:=Az1 hCp.pipes;obtain⟨A4,k4,rfl⟩:=Az1 hCp.procs;have hD0:=DoAt.start (cs:= #[.int .i64 kd, .int .i64 xp, .int .i64 xn, .int .i64 xm, .string nm, .string dt]) (zk:= #[.slice none 0 0, .slice none 0 0, .slice none 0 0, .slice none 0 0, .slice none 0 0]) rfl HW0.out (HB1.out.trans (hb2.mono HB1.out.size)) (hCp.base HB1.out.size) HK0.out.fits;have D0':=Lib.hid (D0.out.below hb2 D0.out.lt);obtain⟨c0',c1',c2',c3',c4'⟩:w2.cell? ⟨w.heap.size,0,none⟩=some (.slice a.a0 k.mods.length a.c0)∧w2.cell? ⟨w.heap.size,1,none⟩=some (.slice a.a1 k.mem.length a.c1)∧w2.cell? ⟨w.heap.size,2,none⟩=some (.slice a.a2 k.nodes.length a.c2)∧w2.cell? ⟨w.heap.size,3,none⟩=some (.slice a.a3 k.pipes.length a.c3)∧w2.cell? ⟨w.heap.size,4,none⟩=some (.slice a.a4 k.procs.length a.c4):=⟨D0'.out.cell 0,D0'.out.cell 1,D0'.out.cell 2,D0'.out.cell 3,D0'.out.cell 4⟩;obtain⟨-, -, -, -, -,f0,f1,f2,f3,f4, -⟩:=D0'.out.a5;have cl':=D0'.out.lt;clear hCp hb2 HCP c0 c1 c2 c3 c4 cl a0 al;go_upto_region 9 with fail
 refine(show ∀ W:World,DoAt w W ⟨A0,k0,A1,k1,A2,k2,A3,k3,A4,k4⟩ k ms es #[.int .i64 kd, .int .i64 xp, .int .i64 xn, .int .i64 xm, .string nm, .string dt] w2.heap.size (w2.heap.size+1) 0 0 ⟨#[]⟩→Code.wp _ _ _ _ W from ?_) _ hD0;clear hD0 c0' c1' c2' c3' c4' f0 f1 f2 f3 f4 cl' D0' D0 D1 D2 D3 q1 q2;intro W9 hD9;have HD9:=Lib.hid hD9;clear hD9;obtain⟨aa,haa⟩:∃ aa:KA,aa=⟨A0,k0,A1,k1,A2,k2,A3,k3,A4,k4⟩:=⟨_,rfl⟩;rw[←haa] at HD9;clear haa;obtain⟨x0, -, -, -,xl⟩:=HD9.out.ac.a2;simp at x0;go_upto_block 0 with fail
 go_cut [] (fun wx=>∃ aa ms es kk rc rn rd,DoAt w wx aa kk ms es #[.int .i64 kd, .int .i64 xp, .int .i64 xn, .int .i64 xm, .string nm, .string dt] w2.heap.size (w2.heap.size+1) rc rn rd∧doK k ⟨kd,xp,xn,xm,nm,dt⟩=(kk,⟨rc,rn,rd⟩))
 case first=>
  clear x0 xl;by_cases k1:kd=1
  ·subst k1
   have HVD:Hid (doK k ⟨1,xp,xn,xm,nm,dt⟩=Bzf k dt):=rfl;have HI:=Lib.hid (Jzy dt W9 HD9.out.ks HKO.out (HT0.out.below HD9.out.fr) HDT.out);obtain⟨r,hr⟩:∃ r,r=Bzf k dt:=⟨_,rfl⟩;have HRD:=Lib.hid (show r.2.data=noS by rw[hr];exact Lzx k dt);rw[←hr] at HI HVD;clear hr;obtain⟨x0, -, -, -,xl⟩:=HD9.out.wk.a2;have a5:=HD9.out.ac.cell 5;have al:=HD9.out.ac.lt;simp at x0 a5;go_wp2_with fail;refine HI.out.mono ?_;rintro e w10 ⟨rfl,hF,a',ms',hK'⟩;have HD10:=Lib.hid (HD9.out.next hK' hF);clear hK' hF HI HD9 x0 xl a5 al;obtain⟨kk,kr⟩:=r;obtain⟨rc,rn,rd⟩:=kr;obtain⟨o0,o1,of0,of1,ol⟩:=HD10.out.ot.a2;simp at o0 o1;go_wp2;go_meet;exact⟨_,_,_,_,_,_,_,((HD10.out.set_ 1 (.int .i64 rn) (v0:=0) (v1:=rn) (t:=⟨#[]⟩) rfl).set_ 0 (.int .i64 rc) (v0:=rc) (v1:=rn) (t:=⟨#[]⟩) rfl),(HVD.out.trans (by rw[show rd=noS from HRD.out];rfl))⟩
  have t1:(kd == 1)=false:=by rw[beq_eq_false_iff_ne];exact k1
  by_cases k2:kd=2
  ·subst k2
   have HVD:Hid (doK k ⟨2,xp,xn,xm,nm,dt⟩=Cze k nm ⟨noS,1,noS,0⟩):=rfl;have HI:=Lib.hid (Lz3 nm (⟨noS,1,noS,0⟩:Nod) W9 HD9.out.ks HKO.out.l2 HKO.out.l0 HN.out);obtain⟨r,hr⟩:∃ r,r=Cze k nm ⟨noS,1,noS,0⟩:=⟨_,rfl⟩;have HRD:=Lib.hid (show r.2.data=noS by rw[hr];exact Nze k nm _);rw[←hr] at HI HVD;clear hr;obtain⟨x0, -, -, -,xl⟩:=HD9.out.wk.a2;have a4:=HD9.out.ac.cell 4;have al:=HD9.out.ac.lt;simp at x0 a4;go_wp2_with fail;refine HI.out.mono ?_;rintro e w10 ⟨rfl,hK',hF⟩;have HD10:=Lib.hid (HD9.out.next hK' hF);clear hK' hF HI HD9 x0 xl a4 al;obtain⟨kk,kr⟩:=r;obtain⟨rc,rn,rd⟩:=kr;obtain⟨o0,o1,of0,of1,ol⟩:=HD10.out.ot.a2;simp at o0 o1;go_wp2;go_meet;exact⟨_,_,_,_,_,_,_,((HD10.out.set_ 1 (.int .i64 rn) (v0:=0) (v1:=rn) (t:=⟨#[]⟩) rfl).set_ 0 (.int .i64 rc) (v0:=rc) (v1:=rn) (t:=⟨#[]⟩) rfl),(HVD.out.trans (by rw[show rd=noS from HRD.out];rfl))⟩
  have t2:(kd == 2)=false:=by rw[beq_eq_false_iff_ne];exact k2
  by_cases k3:kd=3
  ·subst k3
   have HVD:Hid (doK k ⟨3,xp,xn,xm,nm,dt⟩=Cze k nm ⟨noS,2,noS,xn⟩):=rfl;have HI:=Lib.hid (Lz3 nm (⟨noS,2,noS,xn⟩:Nod) W9 HD9.out.ks HKO.out.l2 HKO.out.l0 HN.out);obtain⟨r,hr⟩:∃ r,r=Cze k nm ⟨noS,2,noS,xn⟩:=⟨_,rfl⟩;have HRD:=Lib.hid (show r.2.data=noS by rw[hr];exact Nze k nm _);rw[←hr] at HI HVD;clear hr;obtain⟨x0, -, -, -,xl⟩:=HD9.out.wk.a2;obtain⟨-, -,a2, -,a4, -, -, -, -, -,al⟩:=HD9.out.ac.a5;simp at x0 a2 a4;go_wp2_with fail;refine HI.out.mono ?_;rintro e w10 ⟨rfl,hK',hF⟩;have HD10:=Lib.hid (HD9.out.next hK' hF);clear hK' hF HI HD9 x0 xl a2 a4 al;obtain⟨kk,kr⟩:=r;obtain⟨rc,rn,rd⟩:=kr;obtain⟨o0,o1,of0,of1,ol⟩:=HD10.out.ot.a2;simp at o0 o1;go_wp2;go_meet;exact⟨_,_,_,_,_,_,_,((HD10.out.set_ 1 (.int .i64 rn) (v0:=0) (v1:=rn) (t:=⟨#[]⟩) rfl).set_ 0 (.int .i64 rc) (v0:=rc) (v1:=rn) (t:=⟨#[]⟩) rfl),(HVD.out.trans (by rw[show rd=noS from HRD.out];rfl))⟩
  have t3:(kd == 3)=false:=by rw[beq_eq_false_iff_ne];exact k3
  by_cases k4:kd=4
  ·subst k4
   have HVD:Hid (doK k ⟨4,xp,xn,xm,nm,dt⟩=if empS nm∨Bzm k nm<0 then (k,ansE 6) else (Czx (setNod k (Bzm k nm).toNat { (k.nodes.getD (Bzm k nm).toNat default) with name:=noS }),ansN 0)):=rfl;have HI:=Lib.hid (Hzn nm W9 HD9.out.ks HKO.out.l2);obtain⟨x0, -, -, -,xl⟩:=HD9.out.wk.a2;have a4:=HD9.out.ac.cell 4;have al:=HD9.out.ac.lt;simp at x0 a4;go_wp2_with fail;refine HI.out.mono ?_;rintro e w10 ⟨rfl,hb⟩;have HD10:=Lib.hid (HD9.out.below hb);clear hb HI HD9 x0 xl a4 al;obtain⟨fi,hfi⟩:∃ fi,fi=Bzm k nm:=⟨_,rfl⟩;have HFI:=Lib.hid hfi;rw[←hfi] at HVD;rw[←hfi];obtain⟨x0, -, -, -,xl⟩:=HD10.out.wk.a2;have a4:=HD10.out.ac.cell 4;have al:=HD10.out.ac.lt;simp at x0 a4;obtain⟨o0,o1,of0,of1,ol⟩:=HD10.out.ot.a2;simp at o0 o1;by_cases hem:empS nm=true
   ·rw[hem,if_pos (.inl rfl)] at HVD
    clear hfi;have hl0:nm.toList=[]:=by rw[Bz5] at hem;simpa using hem
    have hl1:nm.toList.isEmpty=true:=by rw[hl0];rfl
    clear hem;go_wp2;go_meet;exact⟨_,_,_,_,_,_,_,(HD10.out.set_ 0 (.int .i64 6) (v0:=6) (v1:=0) (t:=⟨#[]⟩) rfl),HVD.out⟩
   have hem:empS nm=false:=by simpa using hem
   have hl0:nm.toList≠ []:=by rw[Bz5] at hem;simpa using hem
   have hl1:nm.toList.isEmpty=false:=by rw[List.isEmpty_eq_false_iff];exact hl0
   by_cases h0:fi<0
   ·rw[if_pos (.inr h0)] at HVD
    clear hem hfi;go_wp2;go_meet;exact⟨_,_,_,_,_,_,_,(HD10.out.set_ 0 (.int .i64 6) (v0:=6) (v1:=0) (t:=⟨#[]⟩) rfl),HVD.out⟩
   rw[if_neg (by rintro (h|h);rw[hem] at h;cases h;exact h0 h)] at HVD;clear hem hfi;obtain⟨i,hi,he,_,_⟩:=Eze (k:=k) (s:=nm) (by rw[←HFI.out];omega);have e1:fi=(i:Int):=HFI.out.trans he;subst e1;rw[Int.toNat_natCast,Az3 hi] at HVD;have hi8:(i:Int)<8:=by have:=HKO.out.l2;omega
   clear h0 he;obtain⟨b2,ha2,hbb2,hlt2⟩:=Azf HD10.out.ks.cp.nodes (by omega);obtain⟨b',o',e1,hbB',hcell⟩:=HD10.out.ks.krn.nodes (by omega);obtain⟨rfl,rfl⟩:b2=b'∧0=o':=by
    have:=ha2.symm.trans e1;injection this with this
    injection this with e3 e4
    exact⟨e3,e4⟩
   obtain⟨z0,z1,z2,z3⟩:=hcell i hi;simp only[Nat.zero_add] at z0 z1 z2 z3;have fz:w10.frozen? ⟨b2,i*4,none⟩=false:=by
    have hn2:=HD10.out.ks.cp.nodes;rw[ha2] at hn2;exact hn2.frozenAt _
   have d2:w10.cell? ⟨w.heap.size,2,none⟩=some (.slice (some ⟨b2,0,none⟩) 8 aa.c2):=by
    have:=HD10.out.ks.c5.2.2.1;rw[ha2,HKO.out.l2] at this;exact this
   have gl:=HD10.out.ks.blk.lt;have HN4:=Lib.hid (HD10.out.ks.nodeName ha2 hi noS);clear hcell e1 ha2;go_upto_region 24 with fail
   refine(show ∀ W:World,DoAt w W aa (setNod k i { k.nodes[i] with name:=noS }) ms es _ w2.heap.size (w2.heap.size+1) 0 0 ⟨#[]⟩→Code.wp _ _ _ _ W from ?_) _ (HD10.out.next HN4.out.1 HN4.out.2);clear HN4 HD10 z0 z1 z2 z3 fz d2 gl x0 xl a4 al o0 o1 ol of0 of1;intro W11 hD11;have HD11:=Lib.hid hD11;have HT:=Lib.hid (Iz5 W11 hD11.ks (by simp only[setNod,List.length_set];exact HKO.out.l2) HKO.out.l3 HKO.out.l4);clear hD11;obtain⟨x0, -, -, -,xl⟩:=HD11.out.wk.a2;simp at x0;go_wp2_with fail;refine HT.out.mono ?_;rintro e w12 ⟨rfl,hK',hF⟩;have HD12:=Lib.hid (HD11.out.next hK' hF);clear hK' hF HT HD11 x0 xl;go_wp2;go_meet;exact⟨_,_,_,_,_,_,_,HD12.out,HVD.out⟩
  have t4:(kd == 4)=false:=by rw[beq_eq_false_iff_ne];exact k4
  have HVD:Hid (doK k ⟨kd,xp,xn,xm,nm,dt⟩=if 0≤xp∧xp<4∧(k.procs.getD (xp).toNat default).live=true then byK k (xp).toNat ⟨kd,xp,xn,xm,nm,dt⟩ else (k,ansE 6)):=by
   show _=_;unfold doK;simp only;rw[if_neg (by omega),if_neg (by omega),if_neg (by omega),if_neg (by omega)]
  have HK5:=Lib.hid (show 5≤kd∧kd≤11 from by have:=HKD.out;omega);clear k1 k2 k3 k4;obtain⟨x0, -, -, -,xl⟩:=HD9.out.wk.a2;obtain⟨-,a1, -, -,al⟩:=HD9.out.ac.a2;simp at x0 a1;obtain⟨o0,o1,of0,of1,ol⟩:=HD9.out.ot.a2;simp at o0 o1;by_cases hx:xp<0
  ·rw[if_neg (by omega)] at HVD
   have p1:decide (xp<0)=true:=decide_eq_true hx;clear hx;go_wp2;go_meet;exact⟨_,_,_,_,_,_,_,(HD9.out.set_ 0 (.int .i64 6) (v0:=6) (v1:=0) (t:=⟨#[]⟩) rfl),HVD.out⟩
  have p1:decide (xp<0)=false:=decide_eq_false hx;by_cases hx4:4≤xp
  ·rw[if_neg (by omega)] at HVD
   have p2:decide (4≤xp)=true:=decide_eq_true hx4;clear hx hx4;go_wp2;go_meet;exact⟨_,_,_,_,_,_,_,(HD9.out.set_ 0 (.int .i64 6) (v0:=6) (v1:=0) (t:=⟨#[]⟩) rfl),HVD.out⟩
  have p2:decide (4≤xp)=false:=decide_eq_false hx4;obtain⟨p,rfl⟩:=Int.eq_ofNat_of_zero_le (by omega:0≤xp);rw[Int.toNat_natCast] at HVD;have hp4:p<4:=by omega
  have hp4i:(p:Int)<4:=by omega
  clear hx hx4;have hpl:p<k.procs.length:=by have:=HKO.out.l4;omega
  have hel:0<k.procs[p].ends.length:=by
   have:=Bzb HKO.out hp4;rw[Az3 hpl] at this;omega
  obtain⟨b4,be,c,hp',ha4,_,bl,_,_,_,_,z0,z1⟩:=HD9.out.ks.prcAt hpl hel;have d4:W9.cell? ⟨w.heap.size,4,none⟩=some (.slice (some ⟨b4,0,none⟩) 4 aa.c4):=by
   have:=HD9.out.ks.c5.2.2.2.2;rw[ha4,HKO.out.l4] at this;exact this
  have gl:=HD9.out.ks.blk.lt;have HA4:=Lib.hid ha4;rw[Az3 hpl] at HVD;clear z1 ha4 hel;cases hlv:k.procs[p].live with
  | false=>
    rw[hlv,if_neg (by rintro⟨_,_,h⟩;cases h)] at HVD;rw[hlv] at z0;clear hlv;go_wp2;go_meet;exact⟨_,_,_,_,_,_,_,(HD9.out.set_ 0 (.int .i64 6) (v0:=6) (v1:=0) (t:=⟨#[]⟩) rfl),HVD.out⟩
  | true=>
    rw[hlv,if_pos ⟨by omega,by omega,rfl⟩] at HVD;rw[hlv] at z0;clear hlv;go_upto_region 12 with fail
    clear x0 xl a1 al z0 d4 gl bl o0 o1 ol of0 of1;refine(show ∀ W:World,DoAt w W aa k ms es _ w2.heap.size (w2.heap.size+1) 0 0 ⟨#[]⟩→Code.wp _ _ _ _ W from ?_) _ HD9.out;clear HD9;intro W10 hD10;have HDD:Hid (DoAt w W10.drew aa k ms es #[.int .i64 kd, .int .i64 (p:Int), .int .i64 xn, .int .i64 xm, .string nm, .string dt] w2.heap.size (w2.heap.size+1) 0 0 ⟨#[]⟩):=hD10.below (Below.drewN' (Below.refl _ W10) 1);have HBY:=Lib.hid (Szh HR'.out (⟨kd,(p:Int),xn,xm,nm,dt⟩:Akt) W10.drew HDD.out.ks HKO.out (HT0.out.below HDD.out.fr) HTL.out hp4 HA4.out HN.out HDT.out HK5.out.1 HK5.out.2);obtain⟨r,hr⟩:∃ r,r=byK k p ⟨kd,(p:Int),xn,xm,nm,dt⟩:=⟨_,rfl⟩;rw[←hr] at HBY HVD;clear hr;have d4:W10.cell? ⟨w.heap.size,4,none⟩=some (.slice (some ⟨b4,0,none⟩) 4 aa.c4):=by
     have:=hD10.ks.c5.2.2.2.2;rw[HA4.out,HKO.out.l4] at this;exact this
    have gl:=hD10.ks.blk.lt;obtain⟨x0, -, -, -,xl⟩:=hD10.wk.a2;obtain⟨a0,a1,a2,a3,a4,a5, -, -, -, -, -, -, -, -, -, -, -, -, -, -, -, -,al⟩:=hD10.ac.a11;simp at x0 a0 a1 a2 a3 a4 a5;clear hD10;go_wp2_with fail;go_still_tail 7,(by kernel_rfl);change wpList _ _ _ _ _ W10.drew;go_wp2_with fail;refine HBY.out.mono ?_;rintro e w11 ⟨rfl,hF,a',es',hK'⟩;have HD11:=Lib.hid (HDD.out.next hK' hF);clear hK' hF HDD HBY d4 gl x0 xl a0 a1 a2 a3 a4 a5 al;obtain⟨kk,kr⟩:=r;obtain⟨rc,rn,rd⟩:=kr;obtain⟨o0,o1,o2,of0,of1,of2,ol⟩:=HD11.out.ot.a3;simp at o0 o1 o2;have HD12:=Lib.hid (((HD11.out.set_ 0 (.int .i64 rc) (v0:=rc) (v1:=0) (t:=⟨#[]⟩) rfl).set_ 1 (.int .i64 rn) (v0:=rc) (v1:=rn) (t:=⟨#[]⟩) rfl).set_ 2 (.string rd) (v0:=rc) (v1:=rn) (t:=rd) rfl);go_wp2;go_meet;exact⟨_,_,_,_,_,_,_,HD12.out,HVD.out⟩
 case rest=>
  obtain⟨a',ms',es',kk,rc,rn,rd,hD,hvd⟩:=hcut;have HVD:=Lib.hid hvd;clear hvd HD9 HK0 x0 xl;go_upto_region 25 with fail
  obtain⟨d0,d1,d2,d3,d4⟩:=hD.ks.c5;have gl:=hD.ks.blk.lt;obtain⟨ck,hkb,hks⟩:=hD.rk;obtain⟨rl,⟨_,r0⟩,⟨_,r1⟩,⟨_,r2⟩,⟨_,r3⟩,⟨_,r4⟩⟩:=blk5 hkb hks;obtain⟨-, -, -, -, -,rf0,rf1,rf2,rf3,rf4, -⟩:=hkb.a5;obtain⟨q0,q1,q2,qf0,qf1,qf2,ql⟩:=hD.ra.a3;simp at q0 q1 q2;obtain⟨o0,o1,o2, -, -, -,ol⟩:=hD.ot.a3;simp at o0 o1 o2;have hbo:=hD.bo3;have hne1:w2.heap.size+1≠w.heap.size+2:=by omega
  have hne2:w2.heap.size+1≠w.heap.size+3:=by omega
  have HD:=Lib.hid hD;clear hD hkb hks;go_region
  all_goals
   go_wp2;refine bodyPost_ret (v:= .tuple #[.agg #[.slice a'.a0 kk.mods.length a'.c0, .slice a'.a1 kk.mem.length a'.c1, .slice a'.a2 kk.nodes.length a'.c2, .slice a'.a3 kk.pipes.length a'.c3, .slice a'.a4 kk.procs.length a'.c4], .agg #[.int .i64 (rc), .int .i64 (rn), .string (rd)], .int .i64 0]) (by simp[results,Tryz.results8,go_sem,r0,r1,r2,r3,r4,q0,q1,q2]) rfl ?_;exact(HD.out.fin HV.out HVD.out rfl).drew
theorem Sz7 (HR:RunC 96) (k:Krn) (a:KA) (x:Akt) (w:World) (hK:KrnAt w w.heap.size a k) (hS:k.small) (hC:a.caps k) (ht:Tab w) (hn:x.name.size≤maxLen) (hd:x.data.size≤maxLen):
  Calls Tryz.prog 8 #[.agg (a.cells k), .agg x.cells] w (DoPost w k x):=Sz6 HR k a x.kind x.p x.n x.m x.name x.data w hK hS hC ht hn hd
end Go.Proofs.YtdjamdbamkhblacGreatDoor
namespace Go.Proofs.YtdjamdbamkhblacGreatDoor
open Go.RowKit
set_option linter.unusedVariables false
set_option linter.unusedSimpArgs false
def refN (k:Krn) (s:ByteArray):Int:=if empS s then -1 else Bzm k s
theorem Gzw {α:Type} {p q:α→Bool}:∀ {l:List α} (n:Nat),(∀ x∈l,p x=q x)→idxF p l n=idxF q l n
 | [],_,_=>rfl
 | x::r,n,h=>by rw[idxF,idxF,h x (List.mem_cons_self ..),Gzw (n+1) fun y hy=>h y (List.mem_cons_of_mem _ hy)]
theorem Rzx {k:Krn} (h:KOk k) {s:ByteArray} (hs:empS s=false):refN k s=idxF (fun x:Nod=>x.name == s) k.nodes 0:=by
 unfold refN Bzm;rw[hs];refine Gzw 0 fun x hx=>?_
 obtain⟨i,hi,rfl⟩:=List.mem_iff_getElem.1 hx;cases hn:(k.nodes[i].name == s) with
 | false=>simp
 | true=>
   have he:k.nodes[i].name=s:=Kzl.1 hn;have hb:=((Bz9 hi).1 (h.nodes i hi)).1.2;have hne:k.nodes[i].name≠noS:=by
    rw[he];intro e;rw[Czj.2 e] at hs;cases hs
   have h0:=(hb hne).2.1;simp[h0]
theorem Fz6 (V0 V1 V3 V4:Value) (A:Option Addr) (c:Nat) (k:Krn) (s:ByteArray) (w:World) (hk:KOk k) (hr:RdD w w.heap.size A k.nodes):
  Calls Tryz.prog 25 #[.agg #[V0,V1, .slice A k.nodes.length c,V3,V4], .string s] w fun e w'=>e= .returned (.int .i64 (refN k s))∧Below w.heap.size w w':=by
 obtain⟨b,o,rfl,hbB,hcell⟩:=hr (by have:=hk.l2;omega);have hl:=hk.l2;cases hs:empS s with
 | true=>
   have hl0:s.toList=[]:=by rw[Bz5] at hs;simpa using hs
   have HV:Hid (refN k s= -1):=by show _=_;unfold refN;rw[hs];rfl
   rw[hl];have HB:=Lib.hid (Az6 w (.cells #[V0,V1, .slice (some ⟨b,o,none⟩) 8 c,V3,V4] 30));clear hs hr hcell hk;go_enter Tryz.func25,Tryz.ntmps25;go_wp2;generalize w.alloc (.cells #[V0,V1, .slice (some ⟨b,o,none⟩) 8 c,V3,V4] 30)=W0 at*;go_loop [5] (fun i=>Cnt 8 i fun _=>True) (fun i=>8 - (intOf i).toNat)
   case atStart=>exact⟨0,Nat.zero_le _,rfl,trivial⟩
   case round=>
    obtain⟨n,hn,rfl,_⟩:=hrel;by_cases hlt:n<8
    ·go_wp2
     go_round
     case rel=>exact⟨n+1,by omega,by go_num,trivial⟩
     case measure=>simp[intOf];omega
    ·go_wp2
     go_ret;exact⟨Az8 HV.out.symm,HB.out⟩
 | false=>
   have hl0:s.toList≠ []:=by rw[Bz5] at hs;simpa using hs
   have hl1:(!s.toList.isEmpty)=true:=by simpa using hl0
   have hl2:s.toList.isEmpty=false:=by simpa using hl0
   have HV:=Lib.hid (Rzx hk hs);rw[hl];have hb1:=Az6 w (.cells #[V0,V1, .slice (some ⟨b,o,none⟩) 8 c,V3,V4] 30);have HX:=Lib.hid (Blk.new w 30 #[V0,V1, .slice (some ⟨b,o,none⟩) 8 c,V3,V4]);have HR:=Lib.hid ((hr.below hb1).more hb1.size);have HB:=Lib.hid hb1;clear hs hr hcell hk hb1;go_enter Tryz.func25,Tryz.ntmps25;go_wp2;generalize w.alloc (.cells #[V0,V1, .slice (some ⟨b,o,none⟩) 8 c,V3,V4] 30)=W0 at*;go_loop [5] (fun i=>Cnt 8 i fun n=>Hid (idxF (fun x:Nod=>x.name == s) k.nodes 0=idxF (fun x:Nod=>x.name == s) (k.nodes.drop n) n)) (fun i=>8 - (intOf i).toNat)
   case atStart=>exact⟨0,Nat.zero_le _,rfl,rfl⟩
   case round=>
    obtain⟨n,hn,rfl,HE⟩:=hrel;by_cases hlt:n<8
    ·have hlt':n<k.nodes.length:=by omega
     obtain⟨b',o',e1,hbB',hcell⟩:=HR.out (by omega);obtain⟨rfl,rfl⟩:b=b'∧o=o':=by injection e1 with e1;injection e1 with e2 e3;exact⟨e2,e3⟩
     have z0:=(hcell n hlt').1;obtain⟨y,hy⟩:∃ y,y=k.nodes[n]:=⟨_,rfl⟩;have HD:=Lib.hid (Bzs (p:=fun x:Nod=>x.name == s) hlt');rw[←hy] at z0 HD;obtain⟨-, -,c2, -, -, -,hx⟩:=HX.out.a3;have hn8:(n:Int)<8:=by omega
     simp at c2;clear hcell e1 hy hlt';cases hk:(y.name == s) with
     | true=>
       have HF:Hid (refN k s=(n:Int)):=by show _=_;rw[HV.out,HE.out,HD.out,hk];rfl
       have hk':(y.name.toList == s.toList)=true:=by rw[bs_l];exact hk
       clear hk;go_wp2;go_ret;exact⟨Az8 HF.out.symm,HB.out⟩
     | false=>
       have HG:Hid (idxF (fun x:Nod=>x.name == s) k.nodes 0=idxF (fun x:Nod=>x.name == s) (k.nodes.drop (n+1)) (n+1)):=by show _=_;rw[HE.out,HD.out,hk];rfl
       have hk':(y.name.toList == s.toList)=false:=by rw[bs_l];exact hk
       clear hk;go_wp2;go_round
       case rel=>exact⟨n+1,by omega,by go_num,HG⟩
       case measure=>simp[intOf];omega
    ·have HF:Hid (refN k s= -1):=by show _=_;rw[HV.out,HE.out,List.drop_of_length_le (by omega)];rfl
     go_wp2;go_ret;exact⟨Az8 HF.out.symm,HB.out⟩
theorem Jzv (lv:Bool) (A:Option Addr) (c:Nat) (l:List Opn) (w:World) (hr:RdE w w.heap.size A l) (hl:l.length=6):
  Calls Tryz.prog 66 #[.agg #[.bool lv, .slice A l.length c]] w fun e w'=>e= .returned (.int .i64 (Bzc l))∧Below w.heap.size w w':=by
 obtain⟨b,o,rfl,hbB,hcell⟩:=hr (by omega);rw[hl];have hb1:=Az6 w (.cells #[.bool lv, .slice (some ⟨b,o,none⟩) 6 c] 52);have HX:=Lib.hid (Blk.new w 52 #[.bool lv, .slice (some ⟨b,o,none⟩) 6 c]);have HR:=Lib.hid ((hr.below hb1).more hb1.size);have HB:=Lib.hid hb1;have HV:Hid (Bzc l=idxF (fun x:Opn=>x.kind == 0) l 0):=rfl;clear hr hcell hb1;go_enter Tryz.func66,Tryz.ntmps66;go_wp2;generalize w.alloc (.cells #[.bool lv, .slice (some ⟨b,o,none⟩) 6 c] 52)=W0 at*;go_loop [3] (fun i=>Cnt 6 i fun n=>Hid (Bzc l=idxF (fun x:Opn=>x.kind == 0) (l.drop n) n)) (fun i=>6 - (intOf i).toNat)
 case atStart=>exact⟨0,Nat.zero_le _,rfl,HV⟩
 case round=>
  obtain⟨n,hn,rfl,HE⟩:=hrel;by_cases hlt:n<6
  ·have hlt':n<l.length:=by omega
   obtain⟨b',o',e1,hbB',hcell⟩:=HR.out (by omega);obtain⟨rfl,rfl⟩:b=b'∧o=o':=by injection e1 with e1;injection e1 with e2 e3;exact⟨e2,e3⟩
   have z0:=(hcell n hlt').1;obtain⟨y,hy⟩:∃ y,y=l[n]:=⟨_,rfl⟩;have HD:=Lib.hid (Bzs (p:=fun x:Opn=>x.kind == 0) hlt');rw[←hy] at z0 HD;obtain⟨-,c1, -, -,hx⟩:=HX.out.a2;have hn8:(n:Int)<6:=by omega
   simp at c1;clear hcell e1 hy hlt';cases hk:(y.kind == 0) with
   | true=>
     have HF:Hid (Bzc l=(n:Int)):=by show _=_;rw[HE.out,HD.out,hk];rfl
     go_wp2;go_ret;exact⟨Az8 HF.out.symm,HB.out⟩
   | false=>
     have HG:Hid (Bzc l=idxF (fun x:Opn=>x.kind == 0) (l.drop (n+1)) (n+1)):=by show _=_;rw[HE.out,HD.out,hk];rfl
     go_wp2;go_round
     case rel=>exact⟨n+1,by omega,by go_num,HG⟩
     case measure=>simp[intOf];omega
  ·have HF:Hid (Bzc l= -1):=by show _=_;rw[HE.out,List.drop_of_length_le (by omega)];rfl
   go_wp2;go_ret;exact⟨Az8 HF.out.symm,HB.out⟩
section
variable {B g:Nat} {a:KA} {k:Krn} {ms:List (Value × Value)} {es:List Value}
theorem Fzd (w:World) (h:KS B w g a k ms es) (l2:k.nodes.length=8) (l3:k.pipes.length=6) (l4:k.procs.length=4) (hz:∀ x∈k.nodes,x.kind=0→x=default):
  Calls Tryz.prog 26 #[.pointer (some ⟨g,0,none⟩)] w fun e w'=>e= .returned (.tuple #[])∧KS B w' g a (Czx k) ms es∧Fr B w w':=by
 obtain⟨b2,ha2,hbb2,hlt2⟩:=Azf h.cp.nodes (by omega);obtain⟨b3,ha3,hbb3,hlt3⟩:=Azf h.cp.pipes (by omega);have HA2:=Lib.hid ha2;have HA3:=Lib.hid ha3;have H1:=Lib.hid h;have HZ:=Lib.hid hz;clear h ha2 ha3 hz;go_enter Tryz.func26,Tryz.ntmps26;go_wp2_with fail;go_loopw [2] (fun i wr=>Cnt 8 i fun n=>KS B wr g a { k with nodes:=Bzq (Bzk k.procs) k.nodes n } ms es∧Fr B w wr) (fun i _=>8 - (intOf i).toNat)
 case atStart=>exact⟨0,Nat.zero_le _,rfl,by rw[Gz5];exact H1.out,Fr.refl _ _⟩
 case round=>
  obtain⟨n,hn,rfl,hK,hBe⟩:=hrel;by_cases hlt:n<8
  ·have hlt':n<k.nodes.length:=by omega
   have hltT:n<(Bzq (Bzk k.procs) k.nodes n).length:=by rw[Cz2];exact hlt'
   obtain⟨b',o',e1,hbB',hcell⟩:=hK.krn.nodes (by show 0<(Bzq _ _ _).length;omega);obtain⟨rfl,rfl⟩:b2=b'∧0=o':=by
    have:=HA2.out.symm.trans e1;injection this with this
    injection this with e3 e4
    exact⟨e3,e4⟩
   obtain⟨z0,z1,z2,z3⟩:=hcell n hltT;have hgt:=Gzn (f:=Bzk k.procs) hlt' hltT;have hzx:=HZ.out _ (List.getElem_mem hlt');obtain⟨x,hx⟩:∃ x,x=k.nodes[n]:=⟨_,rfl⟩;simp only[hgt, ←hx,Nat.zero_add] at z0 z1 z2 z3;have hS1:=Lib.hid (Ezr (f:=Bzk k.procs) hlt');have hS2:=Lib.hid (Gz4 (f:=Bzk k.procs) hlt');rw[←hx] at hS1 hS2 hzx;have hn8:(n:Int)<8:=by omega
   obtain⟨c0,c1,c2,c3,c4⟩:=hK.c5;simp only[Cz2] at c2;rw[l2,HA2.out] at c2;rw[l4] at c4;rw[l3] at c3;have HH:=Lib.hid (Cz4 (.slice a.a0 k.mods.length a.c0) (.slice a.a1 k.mem.length a.c1) (.slice (some ⟨b2,0,none⟩) 8 a.c2) (.slice a.a3 k.pipes.length a.c3) a.a4 a.c4 k.procs 1 (n:Int) _ hK.krn.procs (by rw[l4];unfold maxLen;omega));rw[l4,l3] at HH;have hg1:=hK.blk.lt;have HK1:=Lib.hid hK;have HB1:=Lib.hid hBe;have HZX:=Lib.hid hzx;clear hK hBe hcell e1 hgt hx hzx;by_cases hk0:x.kind=0
   ·have hk':(x.kind != 0)=false:=by rw[hk0];rfl
    have HE:=Lib.hid (hS2.out (by
     have:=HZX.out hk0;rw[this];unfold Bzk;split<;>rfl))
    clear hk0;rw[HE.out] at HK1;go_wp2;go_roundw
    case rel=>exact⟨n+1,by omega,by go_num,HK1.out,HB1.out⟩
    case measure=>simp[intOf];omega
   have hk':(x.kind != 0)=true:=by rw[bne_iff_ne];exact hk0
   clear hk0;cases hem:empS x.name with
   | false=>
     have hl0:x.name.toList≠ []:=by rw[Bz5] at hem;simpa using hem
     have hl1:(!x.name.toList.isEmpty)=true:=by simpa using hl0
     have hl2:x.name.toList.isEmpty=false:=by simpa using hl0
     have HE:=Lib.hid (hS2.out (by unfold Bzk;rw[hem];rfl));clear hem;rw[HE.out] at HK1;go_wp2;go_roundw
     case rel=>exact⟨n+1,by omega,by go_num,HK1.out,HB1.out⟩
     case measure=>simp[intOf];omega
   | true=>
     have hl0:x.name.toList=[]:=by rw[Bz5] at hem;simpa using hem
     cases hh:hasE k.procs 1 (n:Int) with
     | true=>
       have HE:=Lib.hid (hS2.out (by unfold Bzk;rw[hem,hh];rfl));rw[hh] at HH;clear hem hh;rw[HE.out] at HK1;go_wp2_with fail;refine HH.out.mono ?_;rintro e w1 ⟨rfl,hb1⟩;have hK2:=HK1.out.below hb1;have hB2:=HB1.out.trans (Fr.low hb1 (Nat.le_of_lt HK1.out.lt));go_wp2;go_roundw
       case rel=>exact⟨n+1,by omega,by go_num,hK2,hB2⟩
       case measure=>simp[intOf];omega
     | false=>
       have hS:=hS1.out;have hdf:Bzk k.procs n x=default:=by unfold Bzk;rw[hem,hh];rfl
       rw[hdf] at hS;rw[hh] at HH;clear hem hh hdf;have HS:=Lib.hid hS;clear hS;go_wp2_with fail;refine HH.out.mono ?_;rintro e w1 ⟨rfl,hb1⟩;have hK2:=HK1.out.below hb1;have hB2:=HB1.out.trans (Fr.low hb1 (Nat.le_of_lt HK1.out.lt));obtain⟨d0,d1,d2,d3,d4⟩:=hK2.c5;simp only[Cz2] at d2;rw[l2,HA2.out] at d2;have hg2:=hK2.blk.lt;have hfr:∀ o,w1.frozen? ⟨b2,o,none⟩=false:=fun o=>by
        have:=hK2.cp.nodes;simp only at this;rw[HA2.out] at this;exact this.frozenAt o
       have f0:=hfr (n*4);have f1:=hfr (n*4+1);have f2:=hfr (n*4+2);have f3:=hfr (n*4+3);have HK2:=Lib.hid hK2;have HB2:=Lib.hid hB2;have y0:=(hb1.cell (p:=⟨b2,_,none⟩) hbB').trans z0;have y1:=(hb1.cell (p:=⟨b2,_,none⟩) hbB').trans z1;have y2:=(hb1.cell (p:=⟨b2,_,none⟩) hbB').trans z2;have y3:=(hb1.cell (p:=⟨b2,_,none⟩) hbB').trans z3;have hz3:b2<w1.heap.size:=Nat.lt_of_lt_of_le hbB' hb1.size;clear hK2 hB2 hb1 hfr c0 c1 c2 c3 c4 z0 z1 z2 z3;go_wp2;go_roundw
       case rel=>
        have hlk:n<({ k with nodes:=Bzq (Bzk k.procs) k.nodes n }:Krn).nodes.length:=hltT;have hfin:=HK2.out.nodeAll HA2.out hlk default;have hkk:setNod { k with nodes:=Bzq (Bzk k.procs) k.nodes n } n default= { k with nodes:=Bzq (Bzk k.procs) k.nodes (n+1) }:=by unfold setNod;rw[HS.out]
        rw[hkk] at hfin
        first|exact⟨n+1,by omega,by go_num,hfin.1,HB2.out.trans hfin.2⟩|((repeat apply Exists.intro);exact⟨⟨n+1,by omega,by go_num,hfin.1,HB2.out.trans hfin.2⟩,rfl⟩)
       case measure=>simp[intOf];omega
  ·obtain rfl:n=8:=by omega
   rw[Iz4 (by omega)] at hK;have HK0:=Lib.hid hK;have HB0:=Lib.hid hBe;clear hK hBe hlt hn H1;go_wp2;go_loopw [3] (fun i wr=>Cnt 6 i fun n=>KS B wr g a { k with nodes:=mapI (Bzk k.procs) k.nodes 0,pipes:=Bzq (Czk k.procs) k.pipes n } ms es∧Fr B w wr) (fun i _=>6 - (intOf i).toNat)
   case atStart=>exact⟨0,Nat.zero_le _,rfl,by rw[Gz5];exact HK0.out,HB0.out⟩
   case round=>
    clear HK0 HB0;obtain⟨n,hn,rfl,hK,hBe⟩:=hrel;by_cases hlt:n<6
    ·have hlt':n<k.pipes.length:=by omega
     have hltT:n<(Bzq (Czk k.procs) k.pipes n).length:=by rw[Cz2];exact hlt'
     obtain⟨b',o',e1,hbB',hcell⟩:=hK.krn.pipes (by show 0<(Bzq _ _ _).length;omega);obtain⟨rfl,rfl⟩:b3=b'∧0=o':=by
      have:=HA3.out.symm.trans e1;injection this with this
      injection this with e3 e4
      exact⟨e3,e4⟩
     have z0:=hcell n hltT;have hgt:=Gzn (f:=Czk k.procs) hlt' hltT;obtain⟨x,hx⟩:∃ x,x=k.pipes[n]:=⟨_,rfl⟩;simp only[hgt, ←hx,Nat.zero_add] at z0;have hS1:=Lib.hid (Ezr (f:=Czk k.procs) hlt');have hS2:=Lib.hid (Gz4 (f:=Czk k.procs) hlt');rw[←hx] at hS1 hS2;have hn8:(n:Int)<6:=by omega
     obtain⟨c0,c1,c2,c3,c4⟩:=hK.c5;simp only[Cz2,Bzh] at c2 c3;rw[l2] at c2;rw[l3,HA3.out] at c3;rw[l4] at c4;have HH:=Lib.hid (Cz4 (.slice a.a0 k.mods.length a.c0) (.slice a.a1 k.mem.length a.c1) (.slice a.a2 8 a.c2) (.slice (some ⟨b3,0,none⟩) 6 a.c3) a.a4 a.c4 k.procs 2 (n:Int) _ hK.krn.procs (by rw[l4];unfold maxLen;omega));rw[l4] at HH;have hg1:=hK.blk.lt;have HK1:=Lib.hid hK;have HB1:=Lib.hid hBe;clear hK hBe hcell e1 hgt hx;cases hh:hasE k.procs 2 (n:Int) with
     | true=>
       have HE:=Lib.hid (hS2.out (by unfold Czk;rw[hh];rfl));rw[hh] at HH;clear hh;rw[HE.out] at HK1;go_wp2_with fail;refine HH.out.mono ?_;rintro e w1 ⟨rfl,hb1⟩;have hK2:=HK1.out.below hb1;have hB2:=HB1.out.trans (Fr.low hb1 (Nat.le_of_lt HK1.out.lt));go_wp2;go_roundw
       case rel=>first|exact⟨n+1,by omega,by go_num,hK2,hB2⟩|((repeat apply Exists.intro);exact⟨⟨n+1,by omega,by go_num,hK2,hB2⟩,rfl⟩)
       case measure=>simp[intOf];omega
     | false=>
       have hS:=hS1.out;have hdf:Czk k.procs n x=noS:=by unfold Czk;rw[hh];rfl
       rw[hdf] at hS;rw[hh] at HH;clear hh hdf;have HS:=Lib.hid hS;clear hS;go_wp2_with fail;refine HH.out.mono ?_;rintro e w1 ⟨rfl,hb1⟩;have hK2:=HK1.out.below hb1;have hB2:=HB1.out.trans (Fr.low hb1 (Nat.le_of_lt HK1.out.lt));obtain⟨d0,d1,d2,d3,d4⟩:=hK2.c5;simp only[Cz2] at d3;rw[l3,HA3.out] at d3;have hg2:=hK2.blk.lt;have f0:w1.frozen? ⟨b3,n,none⟩=false:=by
        have:=hK2.cp.pipes;simp only at this;rw[HA3.out] at this;exact this.frozenAt n
       have y0:=(hb1.cell (p:=⟨b3,_,none⟩) hbB').trans z0;have hz3:b3<w1.heap.size:=Nat.lt_of_lt_of_le hbB' hb1.size;have HK2:=Lib.hid hK2;have HB2:=Lib.hid hB2;clear hK2 hB2 hb1 c0 c1 c2 c3 c4 z0;go_wp2;go_roundw
       case rel=>
        have hfin:=HK2.out.pipeCell (i:=n) HA3.out noS;have hkk:({ k with nodes:=mapI (Bzk k.procs) k.nodes 0,pipes:=(Bzq (Czk k.procs) k.pipes n).set n noS }:Krn)= { k with nodes:=mapI (Bzk k.procs) k.nodes 0,pipes:=Bzq (Czk k.procs) k.pipes (n+1) }:=by rw[HS.out]
        simp only at hfin;rw[hkk] at hfin
        first|exact⟨n+1,by omega,by go_num,hfin.1,HB2.out.trans hfin.2⟩|((repeat apply Exists.intro);exact⟨⟨n+1,by omega,by go_num,hfin.1,HB2.out.trans hfin.2⟩,rfl⟩)
       case measure=>simp[intOf];omega
    ·obtain rfl:n=6:=by omega
     rw[Iz4 (by omega)] at hK;have HK:=Lib.hid hK;have HB:=Lib.hid hBe;clear hK hBe;go_wp2;go_end0;exact⟨rfl,HK.out,HB.out⟩
end
attribute [local go_sem] After.cell
def byR (k:Krn) (x:Akt):Krn × Ans:=if 0≤x.p∧x.p<4∧(k.procs.getD x.p.toNat default).live=true then byK k x.p.toNat x else (k,ansE 6)
structure RbAt (B:Nat) (w W:World) (g:Nat) (a:KA) (k:Krn) (ms:List (Value × Value)) (es:List Value) (cs:Array Value):Prop where
 ks:KS B W g a k ms es
 fr:Fr B w W
 lt:B≤w.heap.size
 ac:Blk W w.heap.size 40 cs
 rs:Blk W (w.heap.size+1) 36 #[.int .i64 0, .int .i64 0, .string ⟨#[]⟩]
section
variable {B g b4 p:Nat} {a:KA} {k:Krn} {ms:List (Value × Value)} {es:List Value} {w W W':World} {cs:Array Value}
theorem RbAt.start (h:KS B w g a k ms es) (cs:Array Value):RbAt B w ((w.alloc (.cells cs 40)).alloc (.cells #[.int .i64 0, .int .i64 0, .string ⟨#[]⟩] 36)) g a k ms es cs:=by
 have hb1:=Az6 w (.cells cs 40);have hb2:=hb1.alloc hb1.size (.cells #[.int .i64 0, .int .i64 0, .string ⟨#[]⟩] 36);exact⟨h.below hb2,Fr.low hb2 (Nat.le_of_lt h.lt),Nat.le_of_lt h.lt,(Blk.new w _ _).alloc _,Blk.new' (by simp)⟩
theorem RbAt.below (h:RbAt B w W g a k ms es cs) (hb:Below W.heap.size W W'):RbAt B w W' g a k ms es cs:=
 ⟨h.ks.below hb,h.fr.trans (Fr.low hb (Nat.le_of_lt h.ks.lt)),h.lt,h.ac.below hb h.ac.lt,h.rs.below hb h.rs.lt⟩
theorem RbAt.next {a':KA} {k':Krn} {es':List Value} (h:RbAt B w W g a k ms es cs) (hk:KS B W' g a' k' ms es') (hf:Fr B W W'):RbAt B w W' g a' k' ms es' cs:=
 ⟨hk,h.fr.trans hf,h.lt,hf.blk h.ac (by decide),hf.blk h.rs (by decide)⟩
theorem RbAt.fin {u0 u1:Int} {s:ByteArray} (h:RbAt B w W g a k ms es cs) (r:Krn × Ans) (hr:r=(k,⟨u0,u1,s⟩)):
  Cz1 B w g ms r (.returned (.agg #[.int .i64 u0, .int .i64 u1, .string s])) (((W.setCell ⟨w.heap.size+1,0,none⟩ (.int .i64 u0)).setCell ⟨w.heap.size+1,1,none⟩ (.int .i64 u1)).setCell ⟨w.heap.size+1,2,none⟩ (.string s)):=by
 subst hr;exact⟨rfl,h.fr.ans3 (Nat.le_add_right _ 1) h.lt _ _ _,_,_,(h.ks.ans3 h.rs (by have:=h.lt;omega) _ _ _).1⟩
theorem Fr.size' {w w':World} (h:Fr B w w'):w.heap.size≤w'.heap.size:=h.low'.size
theorem KS.freeR {be c:Nat} {lv:Bool} (h:KS B W g a k ms es) (hp:p<k.procs.length) (hp':p<es.length) (hes:es[p]= .slice (some ⟨be,0,none⟩) k.procs[p].ends.length c) (hel:k.procs[p].ends.length=6):
  Calls Tryz.prog 66 #[.agg #[.bool lv, .slice (some ⟨be,0,none⟩) 6 c]] W fun e w'=>e= .returned (.int .i64 (Bzc k.procs[p].ends))∧Below W.heap.size W w':=by
 have:=Jzv lv (some ⟨be,0,none⟩) c k.procs[p].ends W (KS.rdE (i:=0) h hp hp' hes) hel;rw[hel] at this;exact this
end
end Go.Proofs.YtdjamdbamkhblacGreatDoor
