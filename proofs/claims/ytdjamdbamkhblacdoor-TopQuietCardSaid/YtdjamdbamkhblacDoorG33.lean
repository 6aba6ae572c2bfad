/- The walk of kern.Do: what it answers, for every kernel and act. Condition: the listed table, the run's contract (RunC). By an AI agent (xdo2.py). The walks of kern.New and of its reference: the new kernel. -/
import Derived.StillTailTactics
import Derived.Test.YtdjamdbamkhblacDoorG32
import Derived.Test.YtdjamdbamkhblacDoorKCheckW
import Derived.Deep.RegionLaw
namespace Go.Proofs.YtdjamdbamkhblacDoor
open Go.RowKit
set_option linter.unusedVariables false
set_option linter.unusedSimpArgs false
attribute [local go_sem] After.cell
theorem DoAt.fin {w W:World} {a:KA} {k:Krn} {ms:List (Value × Value)} {es:List Value} {cs:Array Value} {bw bo:Nat} {u0 u1:Int} {s:ByteArray} (h:DoAt w W a k ms es cs bw bo u0 u1 s) {k0:Krn} {x:Akt} (he:doE k0 x=0) (hr:doK k0 x=(k,⟨u0,u1,s⟩)) {W':World}
  (hW:W'=(((lay5 W (w.heap.size+2) (.slice a.a0 k.mods.length a.c0) (.slice a.a1 k.mem.length a.c1) (.slice a.a2 k.nodes.length a.c2) (.slice a.a3 k.pipes.length a.c3) (.slice a.a4 k.procs.length a.c4)).setCell ⟨w.heap.size+3,0,none⟩ (.int .i64 u0)).setCell ⟨w.heap.size+3,1,none⟩ (.int .i64 u1)).setCell ⟨w.heap.size+3,2,none⟩ (.string s)):
  DoPost w k0 x (.returned (.tuple #[.agg #[.slice a.a0 k.mods.length a.c0, .slice a.a1 k.mem.length a.c1, .slice a.a2 k.nodes.length a.c2, .slice a.a3 k.pipes.length a.c3, .slice a.a4 k.procs.length a.c4], .agg #[.int .i64 u0, .int .i64 u1, .string s], .int .i64 0])) W':=by
 obtain⟨c5,h5,e5⟩:=h.rk;unfold DoPost;rw[hr];obtain⟨WL,hWL⟩:∃ WL,WL=lay5 W (w.heap.size+2) (.slice a.a0 k.mods.length a.c0) (.slice a.a1 k.mem.length a.c1) (.slice a.a2 k.nodes.length a.c2) (.slice a.a3 k.pipes.length a.c3) (.slice a.a4 k.procs.length a.c4):=⟨_,rfl⟩;rw[←hWL] at hW;have g:=Azy W (w.heap.size+2) (.slice a.a0 k.mods.length a.c0) (.slice a.a1 k.mem.length a.c1) (.slice a.a2 k.nodes.length a.c2) (.slice a.a3 k.pipes.length a.c3) (.slice a.a4 k.procs.length a.c4);rw[←hWL] at g;have t1:Tch 36 W WL:=⟨g.os,g.tape,g.output,g.size,fun q hq hne=>g.block q hq fun e=>by
  injection e with e
  subst e;exact hne _ _ h5⟩
 have b1:Below w.heap.size W WL:=⟨g.os,g.tape,g.output,g.size,fun q hq=>g.block q (by have:=h.ks.blk.lt;omega) (fun e=>by injection e with e;omega)⟩;have r0:=h.ra.tch t1 (by decide);have t2:=Tch.of_set (p:=⟨w.heap.size+3,0,none⟩) r0 (.int .i64 u0);have r1:=r0.set_ 0 (.int .i64 u0);have t3:=Tch.of_set (p:=⟨w.heap.size+3,1,none⟩) r1 (.int .i64 u1);have r2:=r1.set_ 1 (.int .i64 u1);have t4:=Tch.of_set (p:=⟨w.heap.size+3,2,none⟩) r2 (.string s);have hC:=((h.ks.cp.tch t1 (by decide) (by decide) (by decide) (by decide) (by decide) (by decide) (by decide)).tch ((t2.trans t3).trans t4) (by decide) (by decide) (by decide) (by decide) (by decide) (by decide) (by decide));rw[←hW] at hC;refine⟨?_, .inr ⟨he,a,ms,es,rfl,hC,h.ks.fits⟩⟩;rw[hW];exact(((h.fr.trans b1).setCell (p:=⟨w.heap.size+3,0,none⟩) (Nat.le_add_right _ 3) _).setCell (p:=⟨w.heap.size+3,1,none⟩) (Nat.le_add_right _ 3) _).setCell (p:=⟨w.heap.size+3,2,none⟩) (Nat.le_add_right _ 3) _
theorem DoPost.drew {w W:World} {k:Krn} {x:Akt} {e:Ending} (h:DoPost w k x e W):DoPost w k x e W.drew:=
 ⟨Below.drewN' h.1 1,by
   rcases h.2 with h|⟨h1,a',ms,es,h2,h3,h4⟩
   ·exact .inl h
   ·exact .inr ⟨h1,a',ms,es,h2,h3.below (Below.drewN' (Below.refl _ _) 1),h4⟩⟩
theorem blk5 {W:World} {q:Nat} {t:TypeId} {cs:Array Value} (h:Blk W q t cs) (hs:cs.size=5):q<W.heap.size∧(∃ u,W.cell? ⟨q,0,none⟩=some u)∧(∃ u,W.cell? ⟨q,1,none⟩=some u)∧(∃ u,W.cell? ⟨q,2,none⟩=some u)∧(∃ u,W.cell? ⟨q,3,none⟩=some u)∧(∃ u,W.cell? ⟨q,4,none⟩=some u):=by
 have e:∀ i,i<5→∃ u,W.cell? ⟨q,i,none⟩=some u:=fun i hi=>⟨cs[i],by rw[h.cell,Array.getElem?_eq_getElem (by omega)]⟩
 exact⟨h.lt,e 0 (by omega),e 1 (by omega),e 2 (by omega),e 3 (by omega),e 4 (by omega)⟩
theorem Lz0 (k:Krn) (s:ByteArray):(Bzm k s).2.data=noS:=by
 unfold Bzm;split
 ·rfl
 ·split
  ·rfl
  ·split
   ·rfl
   ·rfl
theorem Nz4 (k:Krn) (s:ByteArray) (x:Nod):(Bzq k s x).2.data=noS:=by
 unfold Bzq;split
 ·split
  ·rfl
  ·split
   ·rfl
   ·split
    ·rfl
    ·rfl
 ·rfl
set_option maxRecDepth 100000 in
set_option maxHeartbeats 16000000 in
theorem Rzp (HR:RunC 156) (k:Krn) (a:KA) (kd xp xn xm:Int) (nm dt:ByteArray) (w:World) (hK:KrnAt w w.heap.size a k) (hS:k.small) (hC:a.caps k) (ht:Tab w) (hn:nm.size≤maxLen) (hd:dt.size≤maxLen):
  Calls Tryd.prog 40 #[.agg (a.cells k), .agg (⟨kd,xp,xn,xm,nm,dt⟩:Akt).cells] w (DoPost w k ⟨kd,xp,xn,xm,nm,dt⟩):=by
 show Calls _ _ #[.agg #[.slice a.a0 k.mods.length a.c0, .slice a.a1 k.mem.length a.c1, .slice a.a2 k.nodes.length a.c2, .slice a.a3 k.pipes.length a.c3, .slice a.a4 k.procs.length a.c4], .agg #[.int .i64 kd, .int .i64 xp, .int .i64 xn, .int .i64 xm, .string nm, .string dt]] _ _;have HR':=Lib.hid HR;have HK0:=Lib.hid hK;have HS0:=Lib.hid hS;have HC0:=Lib.hid hC;have HT0:=Lib.hid ht;have HN:=Lib.hid hn;have HDT:=Lib.hid hd;have HTL:=Lib.hid (show 1<w.heap.size from ht.1);clear HR hK hS hC ht hn hd;go_enter Tryd.func40,Tryd.ntmps40;go_upto_region 1 with fail
 refine(show ∀ W:World,W=((((w.alloc (.cells (a.cells k) 36)).alloc (.cells #[.int .i64 kd, .int .i64 xp, .int .i64 xn, .int .i64 xm, .string nm, .string dt] 26)).alloc (.cells #[.slice none 0 0, .slice none 0 0, .slice none 0 0, .slice none 0 0, .slice none 0 0] 36)).alloc (.cells #[.int .i64 0, .int .i64 0, .string ⟨#[]⟩] 41))→Code.wp _ _ _ _ W from ?_) _ rfl;intro W0 hW0;have hn:W0.heap.size=w.heap.size+4:=by rw[hW0];simp
 have b0:Blk W0 w.heap.size 36 (a.cells k):=by rw[hW0];exact(((Blk.new w _ _).alloc _).alloc _).alloc _
 have b1:Blk W0 (w.heap.size+1) 26 #[.int .i64 kd, .int .i64 xp, .int .i64 xn, .int .i64 xm, .string nm, .string dt]:=by rw[hW0];exact((Blk.new' (by simp)).alloc _).alloc _
 have b2:Blk W0 (w.heap.size+2) 36 #[.slice none 0 0, .slice none 0 0, .slice none 0 0, .slice none 0 0, .slice none 0 0]:=by rw[hW0];exact(Blk.new' (by simp)).alloc _
 have b3:Blk W0 (w.heap.size+3) 41 #[.int .i64 0, .int .i64 0, .string ⟨#[]⟩]:=by rw[hW0];exact Blk.new' (by simp)
 have hb0:Below w.heap.size w W0:=by
  rw[hW0];exact((((Below.refl w.heap.size w).alloc (Nat.le_refl _) _).alloc (by simp) _).alloc (by simp;omega) _).alloc (by simp;omega) _
 have HW0:=Lib.hid hW0;have HCK:=Lib.hid (Kzn k a W0 ((HK0.out.below hb0).more (by omega)) HS0.out HC0.out (HT0.out.below hb0));have HB:=Lib.hid (show W0.heap.size=w.heap.size+4∧Below w.heap.size w W0 from ⟨hn,hb0⟩);have B0:=Lib.hid b0;have B1:=Lib.hid b1;have B2:=Lib.hid b2;have B3:=Lib.hid b3;obtain⟨c0,c1,c2,c3,c4⟩:W0.cell? ⟨w.heap.size,0,none⟩=some (.slice a.a0 k.mods.length a.c0)∧W0.cell? ⟨w.heap.size,1,none⟩=some (.slice a.a1 k.mem.length a.c1)∧W0.cell? ⟨w.heap.size,2,none⟩=some (.slice a.a2 k.nodes.length a.c2)∧W0.cell? ⟨w.heap.size,3,none⟩=some (.slice a.a3 k.pipes.length a.c3)∧W0.cell? ⟨w.heap.size,4,none⟩=some (.slice a.a4 k.procs.length a.c4):=⟨b0.cell 0,b0.cell 1,b0.cell 2,b0.cell 3,b0.cell 4⟩;have cl:=b0.lt;clear hW0 hn b0 b1 b2 b3 hb0;unfold KA.cells at HCK;go_wp2_with fail;refine HCK.out.mono ?_;rintro e w1 ⟨rfl,hb1⟩;clear HCK c0 c1 c2 c3 c4 cl;have HB1:=Lib.hid hb1;have D0:=Lib.hid (B0.out.below hb1 B0.out.lt);have D1:=Lib.hid (B1.out.below hb1 B1.out.lt);have D2:=Lib.hid (B2.out.below hb1 B2.out.lt);have D3:=Lib.hid (B3.out.below hb1 B3.out.lt);have HBW:=Lib.hid (HB.out.2.trans (hb1.mono (by have:=HB.out.1;omega)));clear hb1 B0 B1 B2 B3;by_cases hk:Bz3 k=0
 rotate_left
 ·have hne:(Bz3 k != 0)=true:=by rw[bne_iff_ne];exact hk
  have HV:Hid (doE k ⟨kd,xp,xn,xm,nm,dt⟩≠0∧doE k ⟨kd,xp,xn,xm,nm,dt⟩=Bz3 k):=by
   have:doE k ⟨kd,xp,xn,xm,nm,dt⟩=Bz3 k:=by unfold doE;rw[if_neg hk]
   exact⟨by rw[this];exact hk,this⟩
  clear hk;obtain⟨r0,r1,r2,r3,r4,rf0,rf1,rf2,rf3,rf4,rl⟩:=D2.out.a5;simp at r0 r1 r2 r3 r4;obtain⟨q0,q1,q2,qf0,qf1,qf2,ql⟩:=D3.out.a3;simp at q0 q1 q2;go_wp2;refine bodyPost_ret (v:= .tuple #[.agg #[.slice none 0 0, .slice none 0 0, .slice none 0 0, .slice none 0 0, .slice none 0 0], .agg #[.int .i64 0, .int .i64 0, .string ⟨#[]⟩], .int .i64 (Bz3 k)]) (by simp[results,Tryd.results40,go_sem,r0,r1,r2,r3,r4,q0,q1,q2]) rfl ?_;refine⟨?_, .inl ⟨HV.out.1,by rw[HV.out.2]⟩⟩;exact((((((((HBW.out.setCell (p:=⟨w.heap.size+2,0,none⟩) (Nat.le_add_right _ 2) _).setCell (p:=⟨w.heap.size+2,1,none⟩) (Nat.le_add_right _ 2) _).setCell (p:=⟨w.heap.size+2,2,none⟩) (Nat.le_add_right _ 2) _).setCell (p:=⟨w.heap.size+2,3,none⟩) (Nat.le_add_right _ 2) _).setCell (p:=⟨w.heap.size+2,4,none⟩) (Nat.le_add_right _ 2) _).setCell (p:=⟨w.heap.size+3,0,none⟩) (Nat.le_add_right _ 3) _).setCell (p:=⟨w.heap.size+3,1,none⟩) (Nat.le_add_right _ 3) _).setCell (p:=⟨w.heap.size+3,2,none⟩) (Nat.le_add_right _ 3) _)
 rw[hk];obtain⟨a0, -, -, -,al⟩:=D1.out.a2;simp at a0;by_cases h1:kd<1
 ·have q1:decide (kd<1)=true:=decide_eq_true h1
  have HV:Hid (doE k ⟨kd,xp,xn,xm,nm,dt⟩≠0∧doE k ⟨kd,xp,xn,xm,nm,dt⟩=3):=by
   have:doE k ⟨kd,xp,xn,xm,nm,dt⟩=3:=by unfold doE;rw[if_pos hk,if_pos (.inl h1)]
   exact⟨by rw[this];decide,this⟩
  clear hk h1;obtain⟨r0,r1,r2,r3,r4,rf0,rf1,rf2,rf3,rf4,rl⟩:=D2.out.a5;simp at r0 r1 r2 r3 r4;obtain⟨q0,q1,q2,qf0,qf1,qf2,ql⟩:=D3.out.a3;simp at q0 q1 q2;go_wp2;refine bodyPost_ret (v:= .tuple #[.agg #[.slice none 0 0, .slice none 0 0, .slice none 0 0, .slice none 0 0, .slice none 0 0], .agg #[.int .i64 0, .int .i64 0, .string ⟨#[]⟩], .int .i64 3]) (by simp[results,Tryd.results40,go_sem,r0,r1,r2,r3,r4,q0,q1,q2]) rfl ?_;refine⟨?_, .inl ⟨HV.out.1,by rw[HV.out.2]⟩⟩;exact((((((((HBW.out.setCell (p:=⟨w.heap.size+2,0,none⟩) (Nat.le_add_right _ 2) _).setCell (p:=⟨w.heap.size+2,1,none⟩) (Nat.le_add_right _ 2) _).setCell (p:=⟨w.heap.size+2,2,none⟩) (Nat.le_add_right _ 2) _).setCell (p:=⟨w.heap.size+2,3,none⟩) (Nat.le_add_right _ 2) _).setCell (p:=⟨w.heap.size+2,4,none⟩) (Nat.le_add_right _ 2) _).setCell (p:=⟨w.heap.size+3,0,none⟩) (Nat.le_add_right _ 3) _).setCell (p:=⟨w.heap.size+3,1,none⟩) (Nat.le_add_right _ 3) _).setCell (p:=⟨w.heap.size+3,2,none⟩) (Nat.le_add_right _ 3) _)
 by_cases h11:11<kd
 ·have q1:decide (kd<1)=false:=decide_eq_false (by omega)
  have q2:decide (11<kd)=true:=decide_eq_true h11;have HV:Hid (doE k ⟨kd,xp,xn,xm,nm,dt⟩≠0∧doE k ⟨kd,xp,xn,xm,nm,dt⟩=3):=by
   have:doE k ⟨kd,xp,xn,xm,nm,dt⟩=3:=by unfold doE;rw[if_pos hk,if_pos (.inr h11)]
   exact⟨by rw[this];decide,this⟩
  clear hk h1 h11;obtain⟨r0,r1,r2,r3,r4,rf0,rf1,rf2,rf3,rf4,rl⟩:=D2.out.a5;simp at r0 r1 r2 r3 r4;obtain⟨q0,q1,q2,qf0,qf1,qf2,ql⟩:=D3.out.a3;simp at q0 q1 q2;go_wp2;refine bodyPost_ret (v:= .tuple #[.agg #[.slice none 0 0, .slice none 0 0, .slice none 0 0, .slice none 0 0, .slice none 0 0], .agg #[.int .i64 0, .int .i64 0, .string ⟨#[]⟩], .int .i64 3]) (by simp[results,Tryd.results40,go_sem,r0,r1,r2,r3,r4,q0,q1,q2]) rfl ?_;refine⟨?_, .inl ⟨HV.out.1,by rw[HV.out.2]⟩⟩;exact((((((((HBW.out.setCell (p:=⟨w.heap.size+2,0,none⟩) (Nat.le_add_right _ 2) _).setCell (p:=⟨w.heap.size+2,1,none⟩) (Nat.le_add_right _ 2) _).setCell (p:=⟨w.heap.size+2,2,none⟩) (Nat.le_add_right _ 2) _).setCell (p:=⟨w.heap.size+2,3,none⟩) (Nat.le_add_right _ 2) _).setCell (p:=⟨w.heap.size+2,4,none⟩) (Nat.le_add_right _ 2) _).setCell (p:=⟨w.heap.size+3,0,none⟩) (Nat.le_add_right _ 3) _).setCell (p:=⟨w.heap.size+3,1,none⟩) (Nat.le_add_right _ 3) _).setCell (p:=⟨w.heap.size+3,2,none⟩) (Nat.le_add_right _ 3) _)
 have HK1:=Lib.hid hk;have q1:decide (kd<1)=false:=decide_eq_false (by omega);have q2:decide (11<kd)=false:=decide_eq_false (by omega);have HKD:=Lib.hid (show 1≤kd∧kd≤11 from ⟨by omega,by omega⟩);have HV:Hid (doE k ⟨kd,xp,xn,xm,nm,dt⟩=0):=by show _=_;unfold doE;rw[if_pos HK1.out,if_neg (by simp only;omega)]
 clear hk h1 h11;have HKO:=Lib.hid ((Dzg k).1 HK1.out);obtain⟨c0,c1,c2,c3,c4⟩:w1.cell? ⟨w.heap.size,0,none⟩=some (.slice a.a0 k.mods.length a.c0)∧w1.cell? ⟨w.heap.size,1,none⟩=some (.slice a.a1 k.mem.length a.c1)∧w1.cell? ⟨w.heap.size,2,none⟩=some (.slice a.a2 k.nodes.length a.c2)∧w1.cell? ⟨w.heap.size,3,none⟩=some (.slice a.a3 k.pipes.length a.c3)∧w1.cell? ⟨w.heap.size,4,none⟩=some (.slice a.a4 k.procs.length a.c4):=⟨D0.out.cell 0,D0.out.cell 1,D0.out.cell 2,D0.out.cell 3,D0.out.cell 4⟩;have cl:=D0.out.lt;have HCP:=Lib.hid (Ozb k a w1 ((HK0.out.below HBW.out).more HBW.out.size));unfold KA.cells at HCP;go_wp2_with fail;refine HCP.out.mono ?_;rintro e w2 ⟨V0,V1,V2,V3,V4,ms,es,rfl,hCp,hb2⟩;obtain⟨A0,k0,rfl⟩:=Az5 hCp.mods;obtain⟨A1,k1,rfl⟩:=Az5 hCp.mem;obtain⟨A2,k2,rfl⟩:=Az5 hCp.nodes;obtain⟨A3,k3,rfl⟩:=Az5 hCp.pipes;obtain⟨A4,k4,rfl⟩:=Az5 hCp.procs;have hD0:=DoAt.start (cs:= #[.int .i64 kd, .int .i64 xp, .int .i64 xn, .int .i64 xm, .string nm, .string dt]) (zk:= #[.slice none 0 0, .slice none 0 0, .slice none 0 0, .slice none 0 0, .slice none 0 0]) rfl HW0.out (HB1.out.trans (hb2.mono HB1.out.size)) (hCp.base HB1.out.size) HK0.out.fits;have D0':=Lib.hid (D0.out.below hb2 D0.out.lt);obtain⟨c0',c1',c2',c3',c4'⟩:w2.cell? ⟨w.heap.size,0,none⟩=some (.slice a.a0 k.mods.length a.c0)∧w2.cell? ⟨w.heap.size,1,none⟩=some (.slice a.a1 k.mem.length a.c1)∧w2.cell? ⟨w.heap.size,2,none⟩=some (.slice a.a2 k.nodes.length a.c2)∧w2.cell? ⟨w.heap.size,3,none⟩=some (.slice a.a3 k.pipes.length a.c3)∧w2.cell? ⟨w.heap.size,4,none⟩=some (.slice a.a4 k.procs.length a.c4):=⟨D0'.out.cell 0,D0'.out.cell 1,D0'.out.cell 2,D0'.out.cell 3,D0'.out.cell 4⟩;obtain⟨-, -, -, -, -,f0,f1,f2,f3,f4, -⟩:=D0'.out.a5;have cl':=D0'.out.lt;clear hCp hb2 HCP c0 c1 c2 c3 c4 cl a0 al;go_upto_region 9 with fail
 refine(show ∀ W:World,DoAt w W ⟨A0,k0,A1,k1,A2,k2,A3,k3,A4,k4⟩ k ms es #[.int .i64 kd, .int .i64 xp, .int .i64 xn, .int .i64 xm, .string nm, .string dt] w2.heap.size (w2.heap.size+1) 0 0 ⟨#[]⟩→Code.wp _ _ _ _ W from ?_) _ hD0;clear hD0 c0' c1' c2' c3' c4' f0 f1 f2 f3 f4 cl' D0' D0 D1 D2 D3 q1 q2;intro W9 hD9;have HD9:=Lib.hid hD9;clear hD9;obtain⟨aa,haa⟩:∃ aa:KA,aa=⟨A0,k0,A1,k1,A2,k2,A3,k3,A4,k4⟩:=⟨_,rfl⟩;rw[←haa] at HD9;clear haa;obtain⟨x0, -, -, -,xl⟩:=HD9.out.ac.a2;simp at x0;go_upto_block 0 with fail
 go_cut [] (fun wx=>∃ aa ms es kk rc rn rd,DoAt w wx aa kk ms es #[.int .i64 kd, .int .i64 xp, .int .i64 xn, .int .i64 xm, .string nm, .string dt] w2.heap.size (w2.heap.size+1) rc rn rd∧doK k ⟨kd,xp,xn,xm,nm,dt⟩=(kk,⟨rc,rn,rd⟩))
 case first=>
  clear x0 xl;by_cases k1:kd=1
  ·subst k1
   have HVD:Hid (doK k ⟨1,xp,xn,xm,nm,dt⟩=Bzm k dt):=rfl;have HI:=Lib.hid (Jze dt W9 HD9.out.ks HKO.out (HT0.out.below HD9.out.fr) HDT.out);obtain⟨r,hr⟩:∃ r,r=Bzm k dt:=⟨_,rfl⟩;have HRD:=Lib.hid (show r.2.data=noS by rw[hr];exact Lz0 k dt);rw[←hr] at HI HVD;clear hr;obtain⟨x0, -, -, -,xl⟩:=HD9.out.wk.a2;have a5:=HD9.out.ac.cell 5;have al:=HD9.out.ac.lt;simp at x0 a5;go_wp2_with fail;refine HI.out.mono ?_;rintro e w10 ⟨rfl,hF,a',ms',hK'⟩;have HD10:=Lib.hid (HD9.out.next hK' hF);clear hK' hF HI HD9 x0 xl a5 al;obtain⟨kk,kr⟩:=r;obtain⟨rc,rn,rd⟩:=kr;obtain⟨o0,o1,of0,of1,ol⟩:=HD10.out.ot.a2;simp at o0 o1;go_wp2;go_meet;exact⟨_,_,_,_,_,_,_,((HD10.out.set_ 1 (.int .i64 rn) (v0:=0) (v1:=rn) (t:=⟨#[]⟩) rfl).set_ 0 (.int .i64 rc) (v0:=rc) (v1:=rn) (t:=⟨#[]⟩) rfl),(HVD.out.trans (by rw[show rd=noS from HRD.out];rfl))⟩
  have t1:(kd == 1)=false:=by rw[beq_eq_false_iff_ne];exact k1
  by_cases k2:kd=2
  ·subst k2
   have HVD:Hid (doK k ⟨2,xp,xn,xm,nm,dt⟩=Bzq k nm ⟨noS,1,noS,0⟩):=rfl;have HI:=Lib.hid (Kzb nm (⟨noS,1,noS,0⟩:Nod) W9 HD9.out.ks HKO.out.l2 HKO.out.l0 HN.out);obtain⟨r,hr⟩:∃ r,r=Bzq k nm ⟨noS,1,noS,0⟩:=⟨_,rfl⟩;have HRD:=Lib.hid (show r.2.data=noS by rw[hr];exact Nz4 k nm _);rw[←hr] at HI HVD;clear hr;obtain⟨x0, -, -, -,xl⟩:=HD9.out.wk.a2;have a4:=HD9.out.ac.cell 4;have al:=HD9.out.ac.lt;simp at x0 a4;go_wp2_with fail;refine HI.out.mono ?_;rintro e w10 ⟨rfl,hK',hF⟩;have HD10:=Lib.hid (HD9.out.next hK' hF);clear hK' hF HI HD9 x0 xl a4 al;obtain⟨kk,kr⟩:=r;obtain⟨rc,rn,rd⟩:=kr;obtain⟨o0,o1,of0,of1,ol⟩:=HD10.out.ot.a2;simp at o0 o1;go_wp2;go_meet;exact⟨_,_,_,_,_,_,_,((HD10.out.set_ 1 (.int .i64 rn) (v0:=0) (v1:=rn) (t:=⟨#[]⟩) rfl).set_ 0 (.int .i64 rc) (v0:=rc) (v1:=rn) (t:=⟨#[]⟩) rfl),(HVD.out.trans (by rw[show rd=noS from HRD.out];rfl))⟩
  have t2:(kd == 2)=false:=by rw[beq_eq_false_iff_ne];exact k2
  by_cases k3:kd=3
  ·subst k3
   have HVD:Hid (doK k ⟨3,xp,xn,xm,nm,dt⟩=Bzq k nm ⟨noS,2,noS,xn⟩):=rfl;have HI:=Lib.hid (Kzb nm (⟨noS,2,noS,xn⟩:Nod) W9 HD9.out.ks HKO.out.l2 HKO.out.l0 HN.out);obtain⟨r,hr⟩:∃ r,r=Bzq k nm ⟨noS,2,noS,xn⟩:=⟨_,rfl⟩;have HRD:=Lib.hid (show r.2.data=noS by rw[hr];exact Nz4 k nm _);rw[←hr] at HI HVD;clear hr;obtain⟨x0, -, -, -,xl⟩:=HD9.out.wk.a2;obtain⟨-, -,a2, -,a4, -, -, -, -, -,al⟩:=HD9.out.ac.a5;simp at x0 a2 a4;go_wp2_with fail;refine HI.out.mono ?_;rintro e w10 ⟨rfl,hK',hF⟩;have HD10:=Lib.hid (HD9.out.next hK' hF);clear hK' hF HI HD9 x0 xl a2 a4 al;obtain⟨kk,kr⟩:=r;obtain⟨rc,rn,rd⟩:=kr;obtain⟨o0,o1,of0,of1,ol⟩:=HD10.out.ot.a2;simp at o0 o1;go_wp2;go_meet;exact⟨_,_,_,_,_,_,_,((HD10.out.set_ 1 (.int .i64 rn) (v0:=0) (v1:=rn) (t:=⟨#[]⟩) rfl).set_ 0 (.int .i64 rc) (v0:=rc) (v1:=rn) (t:=⟨#[]⟩) rfl),(HVD.out.trans (by rw[show rd=noS from HRD.out];rfl))⟩
  have t3:(kd == 3)=false:=by rw[beq_eq_false_iff_ne];exact k3
  by_cases k4:kd=4
  ·subst k4
   have HVD:Hid (doK k ⟨4,xp,xn,xm,nm,dt⟩=if empS nm∨Bzp k nm<0 then (k,ansE 6) else (Cza (setNod k (Bzp k nm).toNat { (k.nodes.getD (Bzp k nm).toNat default) with name:=noS }),ansN 0)):=rfl;have HI:=Lib.hid (Hz3 nm W9 HD9.out.ks HKO.out.l2);obtain⟨x0, -, -, -,xl⟩:=HD9.out.wk.a2;have a4:=HD9.out.ac.cell 4;have al:=HD9.out.ac.lt;simp at x0 a4;go_wp2_with fail;refine HI.out.mono ?_;rintro e w10 ⟨rfl,hb⟩;have HD10:=Lib.hid (HD9.out.below hb);clear hb HI HD9 x0 xl a4 al;obtain⟨fi,hfi⟩:∃ fi,fi=Bzp k nm:=⟨_,rfl⟩;have HFI:=Lib.hid hfi;rw[←hfi] at HVD;rw[←hfi];obtain⟨x0, -, -, -,xl⟩:=HD10.out.wk.a2;have a4:=HD10.out.ac.cell 4;have al:=HD10.out.ac.lt;simp at x0 a4;obtain⟨o0,o1,of0,of1,ol⟩:=HD10.out.ot.a2;simp at o0 o1;by_cases hem:empS nm=true
   ·rw[hem,if_pos (.inl rfl)] at HVD
    clear hfi;have hl0:nm.toList=[]:=by rw[Bzr] at hem;simpa using hem
    have hl1:nm.toList.isEmpty=true:=by rw[hl0];rfl
    clear hem;go_wp2;go_meet;exact⟨_,_,_,_,_,_,_,(HD10.out.set_ 0 (.int .i64 6) (v0:=6) (v1:=0) (t:=⟨#[]⟩) rfl),HVD.out⟩
   have hem:empS nm=false:=by simpa using hem
   have hl0:nm.toList≠ []:=by rw[Bzr] at hem;simpa using hem
   have hl1:nm.toList.isEmpty=false:=by rw[List.isEmpty_eq_false_iff];exact hl0
   by_cases h0:fi<0
   ·rw[if_pos (.inr h0)] at HVD
    clear hem hfi;go_wp2;go_meet;exact⟨_,_,_,_,_,_,_,(HD10.out.set_ 0 (.int .i64 6) (v0:=6) (v1:=0) (t:=⟨#[]⟩) rfl),HVD.out⟩
   rw[if_neg (by rintro (h|h);rw[hem] at h;cases h;exact h0 h)] at HVD;clear hem hfi;obtain⟨i,hi,he,_,_⟩:=Ez4 (k:=k) (s:=nm) (by rw[←HFI.out];omega);have e1:fi=(i:Int):=HFI.out.trans he;subst e1;rw[Int.toNat_natCast,Az8 hi] at HVD;have hi8:(i:Int)<8:=by have:=HKO.out.l2;omega
   clear h0 he;obtain⟨b2,ha2,hbb2,hlt2⟩:=Azx HD10.out.ks.cp.nodes (by omega);obtain⟨b',o',e1,hbB',hcell⟩:=HD10.out.ks.krn.nodes (by omega);obtain⟨rfl,rfl⟩:b2=b'∧0=o':=by
    have:=ha2.symm.trans e1;injection this with this
    injection this with e3 e4
    exact⟨e3,e4⟩
   obtain⟨z0,z1,z2,z3⟩:=hcell i hi;simp only[Nat.zero_add] at z0 z1 z2 z3;have fz:w10.frozen? ⟨b2,i*4,none⟩=false:=by
    have hn2:=HD10.out.ks.cp.nodes;rw[ha2] at hn2;exact hn2.frozenAt _
   have d2:w10.cell? ⟨w.heap.size,2,none⟩=some (.slice (some ⟨b2,0,none⟩) 8 aa.c2):=by
    have:=HD10.out.ks.c5.2.2.1;rw[ha2,HKO.out.l2] at this;exact this
   have gl:=HD10.out.ks.blk.lt;have HN4:=Lib.hid (HD10.out.ks.nodeName ha2 hi noS);clear hcell e1 ha2;go_upto_region 24 with fail
   refine(show ∀ W:World,DoAt w W aa (setNod k i { k.nodes[i] with name:=noS }) ms es _ w2.heap.size (w2.heap.size+1) 0 0 ⟨#[]⟩→Code.wp _ _ _ _ W from ?_) _ (HD10.out.next HN4.out.1 HN4.out.2);clear HN4 HD10 z0 z1 z2 z3 fz d2 gl x0 xl a4 al o0 o1 ol of0 of1;intro W11 hD11;have HD11:=Lib.hid hD11;have HT:=Lib.hid (Hzn W11 hD11.ks (by simp only[setNod,List.length_set];exact HKO.out.l2) HKO.out.l3 HKO.out.l4);clear hD11;obtain⟨x0, -, -, -,xl⟩:=HD11.out.wk.a2;simp at x0;go_wp2_with fail;refine HT.out.mono ?_;rintro e w12 ⟨rfl,hK',hF⟩;have HD12:=Lib.hid (HD11.out.next hK' hF);clear hK' hF HT HD11 x0 xl;go_wp2;go_meet;exact⟨_,_,_,_,_,_,_,HD12.out,HVD.out⟩
  have t4:(kd == 4)=false:=by rw[beq_eq_false_iff_ne];exact k4
  have HVD:Hid (doK k ⟨kd,xp,xn,xm,nm,dt⟩=if 0≤xp∧xp<4∧(k.procs.getD (xp).toNat default).live=true then byK k (xp).toNat ⟨kd,xp,xn,xm,nm,dt⟩ else (k,ansE 6)):=by
   show _=_;unfold doK;simp only;rw[if_neg (by omega),if_neg (by omega),if_neg (by omega),if_neg (by omega)]
  have HK5:=Lib.hid (show 5≤kd∧kd≤11 from by have:=HKD.out;omega);clear k1 k2 k3 k4;obtain⟨x0, -, -, -,xl⟩:=HD9.out.wk.a2;obtain⟨-,a1, -, -,al⟩:=HD9.out.ac.a2;simp at x0 a1;obtain⟨o0,o1,of0,of1,ol⟩:=HD9.out.ot.a2;simp at o0 o1;by_cases hx:xp<0
  ·rw[if_neg (by omega)] at HVD
   have p1:decide (xp<0)=true:=decide_eq_true hx;clear hx;go_wp2;go_meet;exact⟨_,_,_,_,_,_,_,(HD9.out.set_ 0 (.int .i64 6) (v0:=6) (v1:=0) (t:=⟨#[]⟩) rfl),HVD.out⟩
  have p1:decide (xp<0)=false:=decide_eq_false hx;by_cases hx4:4≤xp
  ·rw[if_neg (by omega)] at HVD
   have p2:decide (4≤xp)=true:=decide_eq_true hx4;clear hx hx4;go_wp2;go_meet;exact⟨_,_,_,_,_,_,_,(HD9.out.set_ 0 (.int .i64 6) (v0:=6) (v1:=0) (t:=⟨#[]⟩) rfl),HVD.out⟩
  have p2:decide (4≤xp)=false:=decide_eq_false hx4;obtain⟨p,rfl⟩:=Int.eq_ofNat_of_zero_le (by omega:0≤xp);rw[Int.toNat_natCast] at HVD;have hp4:p<4:=by omega
  have hp4i:(p:Int)<4:=by omega
  clear hx hx4;have hpl:p<k.procs.length:=by have:=HKO.out.l4;omega
  have hel:0<k.procs[p].ends.length:=by
   have:=Fzp HKO.out hp4;rw[Az8 hpl] at this;omega
  obtain⟨b4,be,c,hp',ha4,_,bl,_,_,_,_,z0,z1⟩:=HD9.out.ks.prcAt hpl hel;have d4:W9.cell? ⟨w.heap.size,4,none⟩=some (.slice (some ⟨b4,0,none⟩) 4 aa.c4):=by
   have:=HD9.out.ks.c5.2.2.2.2;rw[ha4,HKO.out.l4] at this;exact this
  have gl:=HD9.out.ks.blk.lt;have HA4:=Lib.hid ha4;rw[Az8 hpl] at HVD;clear z1 ha4 hel;cases hlv:k.procs[p].live with
  | false=>
    rw[hlv,if_neg (by rintro⟨_,_,h⟩;cases h)] at HVD;rw[hlv] at z0;clear hlv;go_wp2;go_meet;exact⟨_,_,_,_,_,_,_,(HD9.out.set_ 0 (.int .i64 6) (v0:=6) (v1:=0) (t:=⟨#[]⟩) rfl),HVD.out⟩
  | true=>
    rw[hlv,if_pos ⟨by omega,by omega,rfl⟩] at HVD;rw[hlv] at z0;clear hlv;go_upto_region 12 with fail
    clear x0 xl a1 al z0 d4 gl bl o0 o1 ol of0 of1;refine(show ∀ W:World,DoAt w W aa k ms es _ w2.heap.size (w2.heap.size+1) 0 0 ⟨#[]⟩→Code.wp _ _ _ _ W from ?_) _ HD9.out;clear HD9;intro W10 hD10;have HDD:Hid (DoAt w W10.drew aa k ms es #[.int .i64 kd, .int .i64 (p:Int), .int .i64 xn, .int .i64 xm, .string nm, .string dt] w2.heap.size (w2.heap.size+1) 0 0 ⟨#[]⟩):=hD10.below (Below.drewN' (Below.refl _ W10) 1);have HBY:=Lib.hid (Sz0 HR'.out (⟨kd,(p:Int),xn,xm,nm,dt⟩:Akt) W10.drew HDD.out.ks HKO.out (HT0.out.below HDD.out.fr) HTL.out hp4 HA4.out HN.out HDT.out HK5.out.1 HK5.out.2);obtain⟨r,hr⟩:∃ r,r=byK k p ⟨kd,(p:Int),xn,xm,nm,dt⟩:=⟨_,rfl⟩;rw[←hr] at HBY HVD;clear hr;have d4:W10.cell? ⟨w.heap.size,4,none⟩=some (.slice (some ⟨b4,0,none⟩) 4 aa.c4):=by
     have:=hD10.ks.c5.2.2.2.2;rw[HA4.out,HKO.out.l4] at this;exact this
    have gl:=hD10.ks.blk.lt;obtain⟨x0, -, -, -,xl⟩:=hD10.wk.a2;obtain⟨a0,a1,a2,a3,a4,a5, -, -, -, -, -, -, -, -, -, -, -, -, -, -, -, -,al⟩:=hD10.ac.a11;simp at x0 a0 a1 a2 a3 a4 a5;clear hD10;go_wp2_with fail;go_still_tail 7,(by kernel_rfl);change wpList _ _ _ _ _ W10.drew;go_wp2_with fail;refine HBY.out.mono ?_;rintro e w11 ⟨rfl,hF,a',es',hK'⟩;have HD11:=Lib.hid (HDD.out.next hK' hF);clear hK' hF HDD HBY d4 gl x0 xl a0 a1 a2 a3 a4 a5 al;obtain⟨kk,kr⟩:=r;obtain⟨rc,rn,rd⟩:=kr;obtain⟨o0,o1,o2,of0,of1,of2,ol⟩:=HD11.out.ot.a3;simp at o0 o1 o2;have HD12:=Lib.hid (((HD11.out.set_ 0 (.int .i64 rc) (v0:=rc) (v1:=0) (t:=⟨#[]⟩) rfl).set_ 1 (.int .i64 rn) (v0:=rc) (v1:=rn) (t:=⟨#[]⟩) rfl).set_ 2 (.string rd) (v0:=rc) (v1:=rn) (t:=rd) rfl);go_wp2;go_meet;exact⟨_,_,_,_,_,_,_,HD12.out,HVD.out⟩
 case rest=>
  obtain⟨a',ms',es',kk,rc,rn,rd,hD,hvd⟩:=hcut;have HVD:=Lib.hid hvd;clear hvd HD9 HK0 x0 xl;go_upto_region 25 with fail
  obtain⟨d0,d1,d2,d3,d4⟩:=hD.ks.c5;have gl:=hD.ks.blk.lt;obtain⟨ck,hkb,hks⟩:=hD.rk;obtain⟨rl,⟨_,r0⟩,⟨_,r1⟩,⟨_,r2⟩,⟨_,r3⟩,⟨_,r4⟩⟩:=blk5 hkb hks;obtain⟨-, -, -, -, -,rf0,rf1,rf2,rf3,rf4, -⟩:=hkb.a5;obtain⟨q0,q1,q2,qf0,qf1,qf2,ql⟩:=hD.ra.a3;simp at q0 q1 q2;obtain⟨o0,o1,o2, -, -, -,ol⟩:=hD.ot.a3;simp at o0 o1 o2;have hbo:=hD.bo3;have hne1:w2.heap.size+1≠w.heap.size+2:=by omega
  have hne2:w2.heap.size+1≠w.heap.size+3:=by omega
  have HD:=Lib.hid hD;clear hD hkb hks;go_region
  all_goals
   go_wp2;refine bodyPost_ret (v:= .tuple #[.agg #[.slice a'.a0 kk.mods.length a'.c0, .slice a'.a1 kk.mem.length a'.c1, .slice a'.a2 kk.nodes.length a'.c2, .slice a'.a3 kk.pipes.length a'.c3, .slice a'.a4 kk.procs.length a'.c4], .agg #[.int .i64 (rc), .int .i64 (rn), .string (rd)], .int .i64 0]) (by simp[results,Tryd.results40,go_sem,r0,r1,r2,r3,r4,q0,q1,q2]) rfl ?_;exact(HD.out.fin HV.out HVD.out rfl).drew
theorem Rzq (HR:RunC 156) (k:Krn) (a:KA) (x:Akt) (w:World) (hK:KrnAt w w.heap.size a k) (hS:k.small) (hC:a.caps k) (ht:Tab w) (hn:x.name.size≤maxLen) (hd:x.data.size≤maxLen):
  Calls Tryd.prog 40 #[.agg (a.cells k), .agg x.cells] w (DoPost w k x):=Rzp HR k a x.kind x.p x.n x.m x.name x.data w hK hS hC ht hn hd
end Go.Proofs.YtdjamdbamkhblacDoor
namespace Go.Proofs.YtdjamdbamkhblacDoor
open Go.RowKit
theorem Nze:(Tryd.prog.info? 3).map (fun i=>(i.zero,i.size,i.bytes))=some (some (.int .i64 0),1,8):=by kernel_rfl
theorem Lzf:(Tryd.prog.info? 52).map (fun i=>(i.zero,i.size,i.bytes))=some (some (.agg #[.string ⟨#[]⟩, .int .i64 0, .string ⟨#[]⟩, .int .i64 0]),4,48):=by kernel_rfl
theorem Nzf:(Tryd.prog.info? 9).map (fun i=>(i.zero,i.size,i.bytes))=some (some (.string ⟨#[]⟩),1,16):=by kernel_rfl
theorem Nzd:(Tryd.prog.info? 82).map (fun i=>(i.zero,i.size,i.bytes))=some (some (.agg #[.int .i64 0, .int .i64 0, .int .i64 0]),3,24):=by kernel_rfl
theorem Lzg:(Tryd.prog.info? 79).map (fun i=>(i.zero,i.size,i.bytes))=some (some (.agg #[.bool false, .slice none 0 0]),2,32):=by kernel_rfl
def zInt:Array Value:=madeCells #[.int .i64 0] 1024
def zNod:Array Value:=madeCells #[.string ⟨#[]⟩, .int .i64 0, .string ⟨#[]⟩, .int .i64 0] 32
def zStr:Array Value:=madeCells #[.string ⟨#[]⟩] 6
def zEnd:Array Value:=madeCells #[.int .i64 0, .int .i64 0, .int .i64 0] 18
def zPrc:Array Value:=madeCells #[.bool false, .slice none 0 0] 8
theorem Szf (w:World):(Instr.makeSlice 31 (.int .i64 1024) (.int .i64 1024)).run Tryd.prog w= .ok (.slice (some ⟨w.heap.size,0,none⟩) 1024 1024) (w.alloc (.cells zInt 3)):=Ez7 w 31 3 _ 1 8 1024 Tryd.underlying31 Nze (by omega) (by omega)
theorem Szg (w:World):(Instr.makeSlice 32 (.int .i64 8) (.int .i64 8)).run Tryd.prog w= .ok (.slice (some ⟨w.heap.size,0,none⟩) 8 8) (w.alloc (.cells zNod 52)):=Ez7 w 32 52 _ 4 48 8 Tryd.underlying32 Lzf (by omega) (by omega)
theorem Szi (w:World):(Instr.makeSlice 33 (.int .i64 6) (.int .i64 6)).run Tryd.prog w= .ok (.slice (some ⟨w.heap.size,0,none⟩) 6 6) (w.alloc (.cells zStr 9)):=Ez7 w 33 9 _ 1 16 6 Tryd.underlying33 Nzf (by omega) (by omega)
theorem Sze (w:World):(Instr.makeSlice 77 (.int .i64 6) (.int .i64 6)).run Tryd.prog w= .ok (.slice (some ⟨w.heap.size,0,none⟩) 6 6) (w.alloc (.cells zEnd 82)):=Ez7 w 77 82 _ 3 24 6 Tryd.underlying77 Nzd (by omega) (by omega)
theorem Szh (w:World):(Instr.makeSlice 34 (.int .i64 4) (.int .i64 4)).run Tryd.prog w= .ok (.slice (some ⟨w.heap.size,0,none⟩) 4 4) (w.alloc (.cells zPrc 79)):=Ez7 w 34 79 _ 2 32 4 Tryd.underlying34 Lzg (by omega) (by omega)
def sl (g n:Nat):Value:= .slice (some ⟨g,0,none⟩) n n
structure NewK (w0 wx:World) (g g1 g2 g3:Nat) (V:Value):Prop where
 below:Below w0.heap.size w0 wx
 lo:w0.heap.size<g
 lo1:w0.heap.size<g1
 lo2:w0.heap.size<g2
 lo3:w0.heap.size<g3
 blk:Blk wx g 36 #[.slice none 0 0,sl g1 1024,sl g2 8,sl g3 6,V]
 b0:Blk wx w0.heap.size 36 #[.slice none 0 0, .slice none 0 0, .slice none 0 0, .slice none 0 0, .slice none 0 0]
 b1:Blk wx g1 3 zInt
 b2:Blk wx g2 52 zNod
 b3:Blk wx g3 9 zStr
def pcs:Nat→List Nat→List Value
 | _,[]=>[]
 | i,e::r=> .bool ((i:Int) == 0)::sl e 6::pcs (i+1) r
theorem Kzf:∀ (i:Nat) (es:List Nat) (e:Nat),pcs i (es++ [e])=pcs i es++ [.bool (((i+es.length:Nat):Int) == 0),sl e 6]
 | i,[],e=>by simp[pcs]
 | i,x::r,e=>by
   rw[List.cons_append,pcs,Kzf (i+1) r e,pcs,List.length_cons,show i+1+r.length=i+(r.length+1) by omega];rfl
structure NewR (w0 wx:World) (g g1 g2 g3 k:Nat) (V:Value) (es:List Nat):Prop where
 nk:NewK w0 wx g g1 g2 g3 V
 len:es.length=k
 own:wx.ownsRow w0.heap.size 79 2 V k (pcs 0 es)
 ends : ∀ e ∈ es, w0.heap.size < e ∧ Blk wx e 82 zEnd
 nd:es.Pairwise (· ≠ ·)
theorem NewR.next {w0 wr W w1:World} {g g1 g2 g3 k:Nat} {V V':Value} {es:List Nat} (h:NewR w0 wr g g1 g2 g3 k V es) (hW:Below wr.heap.size wr W) (hE:Blk W wr.heap.size 82 zEnd)
  (h1:w1.ownsRow w0.heap.size 79 2 V' (k+1) (pcs 0 es++ [.bool ((k:Int) == 0),sl wr.heap.size 6])) (hg:W.grownBy w1 V.ownBlock):
  NewR w0 (w1.setCell ⟨g,4,none⟩ V') g g1 g2 g3 (k+1) V' (es++ [wr.heap.size]):=by
 have hlt:w0.heap.size<wr.heap.size:=Nat.lt_trans h.nk.lo h.nk.blk.lt;have keep:∀ {q:Nat} {t:TypeId} {cs:Array Value},Blk wr q t cs→79≠t→Blk w1 q t cs:=fun {q t cs} hq hne=>
  (hq.below hW hq.lt).grown hg (fun e=>Az9 h.own hq hne e.symm)
 have far:∀ {q:Nat} {t:TypeId} {cs:Array Value},Blk w1 q t cs→q≠g→Blk (w1.setCell ⟨g,4,none⟩ V') q t cs:=fun hq hne=>hq.far (p:=⟨g,4,none⟩) hne V'
 have kg:=keep h.nk.blk (by decide);have hE1:Blk w1 wr.heap.size 82 zEnd:=hE.grown hg (fun e=>by
  rcases h.own.2 with⟨hv,_⟩|⟨g',_,_,hv,_,hh,_⟩
  ·rw[hv] at e;cases e
  ·rw[hv] at e
   have:wr.heap.size=g':=by simpa [Value.ownBlock] using e
   have:=Blk.lt (t:=79) hh;omega)
 refine⟨⟨?_,h.nk.lo,h.nk.lo1,h.nk.lo2,h.nk.lo3,?_,?_,?_,?_,?_⟩,by simp[h.len],?_,?_,?_⟩
 ·have b1:=(h.nk.below.trans (hW.mono h.nk.below.size))
  exact(b1.grown hg (Nat.le_trans h.nk.below.size hW.size) (fun q hq=>by
   obtain⟨hb,_⟩:=h.own.lt q hq;exact hb)).setCell (Nat.le_of_lt h.nk.lo) V'
 ·exact kg.set_ 4 V'
 ·exact far (keep h.nk.b0 (by decide)) (Nat.ne_of_lt h.nk.lo)
 ·exact far (keep h.nk.b1 (by decide)) (fun e=>(keep h.nk.b1 (by decide)).ne_ kg (by decide) e)
 ·exact far (keep h.nk.b2 (by decide)) (fun e=>(keep h.nk.b2 (by decide)).ne_ kg (by decide) e)
 ·exact far (keep h.nk.b3 (by decide)) (fun e=>(keep h.nk.b3 (by decide)).ne_ kg (by decide) e)
 ·rw[Kzf,h.len,Nat.zero_add]
  exact h1.kept (row:=some g) ⟨rfl,rfl,rfl,by simp,fun q hq hne=>Below.heap_setCell w1 ⟨g,4,none⟩ V' q (fun e=>hne (by rw[e]))⟩ (.inr (Az9 h1 kg (by decide)))
 ·intro e he
  rcases List.mem_append.1 he with he|he
  ·obtain⟨e1,e2⟩:=h.ends e he
   exact⟨e1,far (keep e2 (by decide)) (fun x=>(keep e2 (by decide)).ne_ kg (by decide) x)⟩
  ·obtain rfl:e=wr.heap.size:=by simpa using he
   exact⟨hlt,far hE1 (fun x=>hE1.ne_ kg (by decide) x)⟩
 ·rw[List.pairwise_append]
  refine⟨h.nd,by simp,fun a ha b hb=>?_⟩;obtain rfl:b=wr.heap.size:=by simpa using hb
  exact Nat.ne_of_lt (h.ends a ha).2.lt
structure NewF (w0 wx:World) (g1 g2 g3:Nat) (V:Value) (xs:List Value) (es:List Nat):Prop where
 below:Below w0.heap.size w0 wx
 b1:Blk wx g1 3 zInt
 b2:Blk wx g2 52 zNod
 b3:Blk wx g3 9 zStr
 own:wx.ownsRow w0.heap.size 79 2 V 4 xs
 ends : ∀ e ∈ es, Blk wx e 82 zEnd
 lo1:w0.heap.size<g1
 lo2:w0.heap.size<g2
 lo3:w0.heap.size<g3
 loe:∀ e∈es,w0.heap.size<e
 nd:es.Pairwise (· ≠ ·)
theorem NewR.fin' {w0 wr W:World} {g g1 g2 g3:Nat} {V:Value} {es:List Nat} (h:NewR w0 wr g g1 g2 g3 4 V es) (hb:Below w0.heap.size w0 W) (hg:wr.grownBy W (some w0.heap.size)):NewF w0 W g1 g2 g3 V (pcs 0 es) es:=by
 have far:∀ {q:Nat} {t:TypeId} {cs:Array Value},Blk wr q t cs→w0.heap.size<q→Blk W q t cs:=fun hq hlt=>hq.grown hg (fun e=>by cases e;omega)
 exact⟨hb,far h.nk.b1 h.nk.lo1,far h.nk.b2 h.nk.lo2,far h.nk.b3 h.nk.lo3,h.own.kept hg (.inr (Az9 h.own h.nk.b0 (by decide))),fun e he=>far (h.ends e he).2 (h.ends e he).1,h.nk.lo1,h.nk.lo2,h.nk.lo3,fun e he=>(h.ends e he).1,h.nd⟩
theorem NewR.fin {w0 wr:World} {g g1 g2 g3:Nat} {V:Value} {es:List Nat} (h:NewR w0 wr g g1 g2 g3 4 V es) (u0 u1 u2 u3 u4:Value):NewF w0 (lay5 wr w0.heap.size u0 u1 u2 u3 u4) g1 g2 g3 V (pcs 0 es) es:=
 h.fin' (Ezw h.nk.below u0 u1 u2 u3 u4) (Azy wr w0.heap.size u0 u1 u2 u3 u4)
theorem NewK.cut {w wx:World} {g g1 g2 g3:Nat} {V:Value} (blk:Blk wx g 36 #[.slice none 0 0,sl g1 1024,sl g2 8,sl g3 6,V]) (below:Below w.heap.size w wx)
  (b0:Blk wx w.heap.size 36 #[.slice none 0 0, .slice none 0 0, .slice none 0 0, .slice none 0 0, .slice none 0 0]) (b1:Blk wx g1 3 zInt) (b2:Blk wx g2 52 zNod) (b3:Blk wx g3 9 zStr)
  (lo:w.heap.size<g) (lo1:w.heap.size<g1) (lo2:w.heap.size<g2) (lo3:w.heap.size<g3):∃ g' g1' g2' g3',Value.pointer (some ⟨g,0,none⟩)= .pointer (some ⟨g',0,none⟩)∧NewK w wx g' g1' g2' g3' V:=
 ⟨g,g1,g2,g3,rfl,⟨below,lo,lo1,lo2,lo3,blk,b0,b1,b2,b3⟩⟩
end Go.Proofs.YtdjamdbamkhblacDoor
