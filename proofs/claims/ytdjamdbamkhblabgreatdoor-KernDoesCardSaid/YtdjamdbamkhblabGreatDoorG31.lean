/- The walk of the law KernDoes. Condition: the listed table. The walk of the machine's loads and stores: no condition. -/
import Derived.Test.YtdjamdbamkhblabGreatDoorG30
import Derived.Test.YtdjamdbamkhblabGreatDoorG23
import Derived.Test.YtdjamdbamkhblabGreatDoorG13
import Derived.Deep.RegionLaw
namespace Go.Proofs.YtdjamdbamkhblabGreatDoor
open Go.RowKit
set_option linter.unusedVariables false
set_option linter.unusedSimpArgs false
def nilK:Krn:=⟨[],[],[],[],[]⟩
def outD (k:Krn) (x:Akt):Krn × Ans × Int:=if doE k x=0 then ((doK k x).1,(doK k x).2,0) else (nilK,⟨0,0,⟨#[]⟩⟩,doE k x)
theorem nilK_at (w:World) (B:Nat):KrnAt w B ⟨none,0,none,0,none,0,none,0,none,0⟩ nilK:=
 ⟨fun h=>absurd h (by decide),fun h=>absurd h (by decide),fun h=>absurd h (by decide),fun h=>absurd h (by decide),fun h=>absurd h (by decide),by decide,by decide,by decide,by decide,by decide,fun _=>⟨rfl,rfl⟩,fun _=>⟨rfl,rfl⟩,fun _=>⟨rfl,rfl⟩,fun _=>⟨rfl,rfl⟩,fun _=>⟨rfl,rfl⟩⟩
theorem copied_at {w:World} {B:Nat} {a:KA} {k:Krn} {ms:List (Value × Value)} {es:List Value} (h:Copied w B (.slice a.a0 k.mods.length a.c0) (.slice a.a1 k.mem.length a.c1) (.slice a.a2 k.nodes.length a.c2) (.slice a.a3 k.pipes.length a.c3) (.slice a.a4 k.procs.length a.c4) k ms es) (hf:k.fits):KrnAt w w.heap.size a k:=by
 obtain⟨a',e,hk⟩:=h.krn hf;have:a=a':=KA.inj (k:=k) e;subst this;exact hk
theorem DoPost.outs {w w':World} {k:Krn} {x:Akt} {e:Ending} (h:DoPost w k x e w'):
  ∃ a',e= .returned (.tuple #[.agg (a'.cells (outD k x).1), .agg #[.int .i64 (outD k x).2.1.code, .int .i64 (outD k x).2.1.n, .string (outD k x).2.1.data], .int .i64 (outD k x).2.2])∧KrnAt w' w'.heap.size a' (outD k x).1∧Below w.heap.size w w':=by
 obtain⟨hb,⟨hne,rfl⟩|⟨he,a',ms,es,rfl,hC,hf⟩⟩:=h
 ·refine⟨⟨none,0,none,0,none,0,none,0,none,0⟩,?_,?_,hb⟩
  ·unfold outD
   rw[if_neg hne];rfl
  ·unfold outD
   rw[if_neg hne];exact nilK_at _ _
 ·refine⟨a',?_,?_,hb⟩
  ·unfold outD
   rw[if_pos he]
  ·unfold outD
   rw[if_pos he];exact copied_at hC hf
theorem krn5 {W:World} {q:Nat} {a:KA} {k:Krn} (h:Blk W q 28 (a.cells k)):q<W.heap.size∧W.cell? ⟨q,0,none⟩=some (.slice a.a0 k.mods.length a.c0)∧W.cell? ⟨q,1,none⟩=some (.slice a.a1 k.mem.length a.c1)∧W.cell? ⟨q,2,none⟩=some (.slice a.a2 k.nodes.length a.c2)∧W.cell? ⟨q,3,none⟩=some (.slice a.a3 k.pipes.length a.c3)∧W.cell? ⟨q,4,none⟩=some (.slice a.a4 k.procs.length a.c4):=
 ⟨h.lt,h.cell 0,h.cell 1,h.cell 2,h.cell 3,h.cell 4⟩
structure KIn (W:World) (q:Nat) (a:KA) (k:Krn):Prop where
 bk:Blk W q 28 (a.cells k)
 kn:KrnAt W W.heap.size a k
theorem KIn.below {W W':World} {q:Nat} {a:KA} {k:Krn} (h:KIn W q a k) (hb:Below W.heap.size W W'):KIn W' q a k:=⟨h.bk.below hb h.bk.lt,(h.kn.below hb).more hb.size⟩
theorem KIn.new {W:World} {a:KA} {k:Krn} (h:KrnAt W W.heap.size a k):KIn (W.alloc (.cells (a.cells k) 28)) W.heap.size a k:=by
 have hb:=below_box W (.cells (a.cells k) 28);exact⟨Blk.new _ _ _,(h.below hb).more hb.size⟩
set_option maxRecDepth 100000 in
set_option maxHeartbeats 4000000 in
theorem KernDoes_any (HR1:RunC 92) (HR2:RunC 98) (k:Krn) (a:KA) (kd xp xn xm:Int) (nm dt:ByteArray) (w:World) (hK:KrnAt w w.heap.size a k) (hS:k.small) (ht:Tab w) (hn:nm.size≤maxLen) (hd:dt.size≤maxLen):
  Calls Tryz.prog 3 #[.agg (a.cells k), .agg (⟨kd,xp,xn,xm,nm,dt⟩:Akt).cells] w fun e w'=>e= .returned (.bool true)∧Below w.heap.size w w':=by
 show Calls _ _ #[.agg #[.slice a.a0 k.mods.length a.c0, .slice a.a1 k.mem.length a.c1, .slice a.a2 k.nodes.length a.c2, .slice a.a3 k.pipes.length a.c3, .slice a.a4 k.procs.length a.c4], .agg #[.int .i64 kd, .int .i64 xp, .int .i64 xn, .int .i64 xm, .string nm, .string dt]] _ _;have hb1:=below_box w (.cells (a.cells k) 28);have hb2:=hb1.alloc hb1.size (.cells #[.int .i64 kd, .int .i64 xp, .int .i64 xn, .int .i64 xm, .string nm, .string dt] 30);have hI:=(KIn.new hK).below (below_box _ (.cells #[.int .i64 kd, .int .i64 xp, .int .i64 xn, .int .i64 xm, .string nm, .string dt] 30));have hA:Blk ((w.alloc (.cells (a.cells k) 28)).alloc (.cells #[.int .i64 kd, .int .i64 xp, .int .i64 xn, .int .i64 xm, .string nm, .string dt] 30)) (w.heap.size+1) 30 #[.int .i64 kd, .int .i64 xp, .int .i64 xn, .int .i64 xm, .string nm, .string dt]:=Blk.new' (by simp);have HT:=Lib.hid ht;have HS:=Lib.hid hS;have HN:=Lib.hid hn;have HD:=Lib.hid hd;clear hS ht hn hd hK hb1;go_enter Tryz.func3,Tryz.ntmps3;go_upto_region 1 with fail
 refine(show ∀ W:World,Below w.heap.size w W→KIn W w.heap.size a k→Blk W (w.heap.size+1) 30 #[.int .i64 kd, .int .i64 xp, .int .i64 xn, .int .i64 xm, .string nm, .string dt]→Code.wp _ _ _ _ W from ?_) _ hb2 hI hA;clear hb2 hI hA;intro W0 hb hI hA;have HB:=Lib.hid hb;have HI:=Lib.hid hI;have HA:=Lib.hid hA;have HC:=Lib.hid (KCopyR_any k a W0 hI.kn);unfold KA.cells at HC;clear hb hI hA;obtain⟨cl,c0,c1,c2,c3,c4⟩:=krn5 HI.out.bk;go_wp2_with fail;refine HC.out.mono ?_;rintro e w1 ⟨V0,V1,V2,V3,V4,ms,es,rfl,hCp,hb1⟩;obtain⟨A0,k0,rfl⟩:=own_slice hCp.mods;obtain⟨A1,k1,rfl⟩:=own_slice hCp.mem;obtain⟨A2,k2,rfl⟩:=own_slice hCp.nodes;obtain⟨A3,k3,rfl⟩:=own_slice hCp.pipes;obtain⟨A4,k4,rfl⟩:=own_slice hCp.procs;have hq:=copied_at (a:=⟨A0,k0,A1,k1,A2,k2,A3,k3,A4,k4⟩) hCp HI.out.kn.fits;have hcp:(⟨A0,k0,A1,k1,A2,k2,A3,k3,A4,k4⟩:KA).caps k:=⟨(own_len hCp.mods).2,(own_len hCp.nodes).2⟩;have hI1:=KIn.new hq;have hba:=below_box w1 (.cells ((⟨A0,k0,A1,k1,A2,k2,A3,k3,A4,k4⟩:KA).cells k) 28);have hI0:=(HI.out.below hb1).below hba;have hA0:=(HA.out.below hb1 HA.out.lt).below hba (Nat.lt_of_lt_of_le HA.out.lt hb1.size);have hB0:=(HB.out.trans (hb1.mono HB.out.size)).trans (hba.mono (Nat.le_trans HB.out.size hb1.size));have HCP:=Lib.hid hcp;clear HC hCp hb1 c0 c1 c2 c3 c4 cl hq hcp hba HI HA HB;go_upto_region 2 with fail
 obtain⟨bs,hbs⟩:∃ bs,bs=w1.heap.size:=⟨_,rfl⟩;rw[←hbs] at hI1 ⊢;clear hbs;refine(show ∀ W:World,Below w.heap.size w W→KIn W w.heap.size a k→Blk W (w.heap.size+1) 30 #[.int .i64 kd, .int .i64 xp, .int .i64 xn, .int .i64 xm, .string nm, .string dt]→KIn W bs ⟨A0,k0,A1,k1,A2,k2,A3,k3,A4,k4⟩ k→Code.wp _ _ _ _ W from ?_) _ hB0 hI0 hA0 hI1;clear hB0 hI0 hA0 hI1;intro W1 hb hI hA hJ;obtain⟨a1,ha1⟩:∃ a1:KA,a1=⟨A0,k0,A1,k1,A2,k2,A3,k3,A4,k4⟩:=⟨_,rfl⟩;rw[←ha1] at hJ HCP;clear ha1;have HB:=Lib.hid hb;have HI:=Lib.hid hI;have HA:=Lib.hid hA;have HJ:=Lib.hid hJ;have HC:Hid (Calls Tryz.prog 5 #[.agg #[.slice a1.a0 k.mods.length a1.c0, .slice a1.a1 k.mem.length a1.c1, .slice a1.a2 k.nodes.length a1.c2, .slice a1.a3 k.pipes.length a1.c3, .slice a1.a4 k.procs.length a1.c4], .agg #[.int .i64 kd, .int .i64 xp, .int .i64 xn, .int .i64 xm, .string nm, .string dt]] W1 (DoPost W1 k ⟨kd,xp,xn,xm,nm,dt⟩)):=
  Do_any HR1 k a1 ⟨kd,xp,xn,xm,nm,dt⟩ W1 hJ.kn HS.out HCP.out (HT.out.below hb) HN.out HD.out
 clear hb hI hA hJ;obtain⟨cl,c0,c1,c2,c3,c4⟩:=krn5 HJ.out.bk;obtain⟨x0,x1,x2,x3,x4,x5, -, -, -, -, -, -, -, -, -, -, -, -, -, -, -, -,xl⟩:=HA.out.a11;simp at x0 x1 x2 x3 x4 x5;go_wp2_with fail;refine HC.out.mono ?_;rintro e w2 hP;have HO:Hid (∀ (W W':World) (e:Ending),DoPost W k ⟨kd,xp,xn,xm,nm,dt⟩ e W'→∃ a',e= .returned (.tuple #[.agg (a'.cells (outD k ⟨kd,xp,xn,xm,nm,dt⟩).1), .agg #[.int .i64 (outD k ⟨kd,xp,xn,xm,nm,dt⟩).2.1.code, .int .i64 (outD k ⟨kd,xp,xn,xm,nm,dt⟩).2.1.n, .string (outD k ⟨kd,xp,xn,xm,nm,dt⟩).2.1.data], .int .i64 (outD k ⟨kd,xp,xn,xm,nm,dt⟩).2.2])∧KrnAt W' W'.heap.size a' (outD k ⟨kd,xp,xn,xm,nm,dt⟩).1∧Below W.heap.size W W'):=fun W W' e h=>h.outs
 obtain⟨r,hr⟩:∃ r,r=outD k ⟨kd,xp,xn,xm,nm,dt⟩:=⟨_,rfl⟩;rw[←hr] at HO;clear hr;obtain⟨kk,⟨rc,rn,rd⟩,er⟩:=r;obtain⟨a2,rfl,hq,hb1⟩:=HO.out _ _ _ hP;have HI2:=Lib.hid (HI.out.below hb1);have HJ2:=Lib.hid (HJ.out.below hb1);have HA2:=Lib.hid (HA.out.below hb1 HA.out.lt);have HB2:=Lib.hid (HB.out.trans (hb1.mono HB.out.size));have hX:=KIn.new hq;have g1:=below_box w2 (.cells (a2.cells kk) 28);have g2:=below_box (w2.alloc (.cells (a2.cells kk) 28)) (.cells #[.int .i64 rc, .int .i64 rn, .string rd] 34);have g3:=g1.trans (g2.mono g1.size);have hX2:=hX.below g2;have hP2:Blk ((w2.alloc (.cells (a2.cells kk) 28)).alloc (.cells #[.int .i64 rc, .int .i64 rn, .string rd] 34)) (w2.heap.size+1) 34 #[.int .i64 rc, .int .i64 rn, .string rd]:=Blk.new' (by simp);have hI2:=HI2.out.below g3;have hJ2:=HJ2.out.below g3;have hA2:=HA2.out.below g3 HA2.out.lt;have hB2:=HB2.out.trans (g3.mono HB2.out.size);clear HC hP c0 c1 c2 c3 c4 cl x0 x1 x2 x3 x4 x5 xl hq hb1 hX g1 g2 g3 HI HJ HA HB HI2 HJ2 HA2 HB2;unfold KA.cells;go_upto_region 3 with fail
 obtain⟨bp,hbp⟩:∃ b,b=w2.heap.size+1:=⟨_,rfl⟩;rw[←hbp] at hP2 ⊢;obtain⟨bx,hbx⟩:∃ b,b=w2.heap.size:=⟨_,rfl⟩;rw[←hbx] at hX2 ⊢;clear hbp hbx;refine(show ∀ W:World,Below w.heap.size w W→KIn W w.heap.size a k→Blk W (w.heap.size+1) 30 #[.int .i64 kd, .int .i64 xp, .int .i64 xn, .int .i64 xm, .string nm, .string dt]→KIn W bs a1 k→KIn W bx a2 kk→Blk W bp 34 #[.int .i64 rc, .int .i64 rn, .string rd]→Code.wp _ _ _ _ W from ?_) _ hB2 hI2 hA2 hJ2 hX2 hP2;clear hB2 hI2 hA2 hJ2 hX2 hP2;intro W2 hb hI hA hJ hX hP;have HB:=Lib.hid hb;have HI:=Lib.hid hI;have HA:=Lib.hid hA;have HJ:=Lib.hid hJ;have HX:=Lib.hid hX;have HP:=Lib.hid hP;have HC:Hid (Calls Tryz.prog 6 #[.agg #[.slice a.a0 k.mods.length a.c0, .slice a.a1 k.mem.length a.c1, .slice a.a2 k.nodes.length a.c2, .slice a.a3 k.pipes.length a.c3, .slice a.a4 k.procs.length a.c4], .agg #[.int .i64 kd, .int .i64 xp, .int .i64 xn, .int .i64 xm, .string nm, .string dt]] W2 (DoPost W2 k ⟨kd,xp,xn,xm,nm,dt⟩)):=
  Did_any HR2 k a ⟨kd,xp,xn,xm,nm,dt⟩ W2 hI.kn HS.out (HT.out.below hb) HN.out HD.out
 clear hb hI hA hJ hX hP;obtain⟨cl,c0,c1,c2,c3,c4⟩:=krn5 HI.out.bk;obtain⟨x0,x1,x2,x3,x4,x5, -, -, -, -, -, -, -, -, -, -, -, -, -, -, -, -,xl⟩:=HA.out.a11;simp at x0 x1 x2 x3 x4 x5;go_wp2_with fail;refine HC.out.mono ?_;rintro e w3 hP;obtain⟨a3,rfl,hq,hb1⟩:=HO.out _ _ _ hP;have HI2:=Lib.hid (HI.out.below hb1);have HJ2:=Lib.hid (HJ.out.below hb1);have HX2:=Lib.hid (HX.out.below hb1);have HP2:=Lib.hid (HP.out.below hb1 HP.out.lt);have HB2:=Lib.hid (HB.out.trans (hb1.mono HB.out.size));have hY:=KIn.new hq;have g1:=below_box w3 (.cells (a3.cells kk) 28);have g2:=below_box (w3.alloc (.cells (a3.cells kk) 28)) (.cells #[.int .i64 rc, .int .i64 rn, .string rd] 34);have g3:=g1.trans (g2.mono g1.size);have hY2:=hY.below g2;have hQ2:Blk ((w3.alloc (.cells (a3.cells kk) 28)).alloc (.cells #[.int .i64 rc, .int .i64 rn, .string rd] 34)) (w3.heap.size+1) 34 #[.int .i64 rc, .int .i64 rn, .string rd]:=Blk.new' (by simp);have hI2:=HI2.out.below g3;have hJ2:=HJ2.out.below g3;have hX2:=HX2.out.below g3;have hP2:=HP2.out.below g3 HP2.out.lt;have hB2:=HB2.out.trans (g3.mono HB2.out.size);clear HC hP c0 c1 c2 c3 c4 cl x0 x1 x2 x3 x4 x5 xl hq hb1 hY g1 g2 g3 HI HJ HA HB HX HP HI2 HJ2 HX2 HP2 HB2 HO;unfold KA.cells;go_upto_region 4 with fail
 obtain⟨bq,hbq⟩:∃ b,b=w3.heap.size+1:=⟨_,rfl⟩;rw[←hbq] at hQ2 ⊢;obtain⟨byy,hby⟩:∃ b,b=w3.heap.size:=⟨_,rfl⟩;rw[←hby] at hY2 ⊢;clear hbq hby
 refine(show ∀ W:World,Below w.heap.size w W→KIn W w.heap.size a k→KIn W bs a1 k→KIn W bx a2 kk→Blk W bp 34 #[.int .i64 rc, .int .i64 rn, .string rd]→KIn W byy a3 kk→Blk W bq 34 #[.int .i64 rc, .int .i64 rn, .string rd]→Code.wp _ _ _ _ W from ?_) _ hB2 hI2 hJ2 hX2 hP2 hY2 hQ2;clear hB2 hI2 hJ2 hX2 hP2 hY2 hQ2;intro W3 hb hI hJ hX hP hY hQ;have HB:=Lib.hid hb;have HI:=Lib.hid hI;have HJ:=Lib.hid hJ;obtain⟨cl,c0,c1,c2,c3,c4⟩:=krn5 hX.bk;obtain⟨dl,d0,d1,d2,d3,d4⟩:=krn5 hY.bk;obtain⟨p0,p1,p2, -, -, -,pl⟩:=hP.a3;obtain⟨q0,q1,q2, -, -, -,ql⟩:=hQ.a3;simp at p0 p1 p2 q0 q1 q2;have HC:=Lib.hid (sameKernel_any kk a2 a3 W3 hX.kn hY.kn);unfold KA.cells at HC;clear hb hI hJ hX hP hY hQ;go_wp2_with fail;refine HC.out.mono ?_;rintro e w4 ⟨rfl,hb1⟩;have HI2:=Lib.hid (HI.out.below hb1);have HJ2:=Lib.hid (HJ.out.below hb1);have HB2:=Lib.hid (HB.out.trans (hb1.mono HB.out.size));clear HC c0 c1 c2 c3 c4 cl d0 d1 d2 d3 d4 dl p0 p1 p2 pl q0 q1 q2 ql hb1 HI HJ HB;obtain⟨cl,c0,c1,c2,c3,c4⟩:=krn5 HI2.out.bk;obtain⟨dl,d0,d1,d2,d3,d4⟩:=krn5 HJ2.out.bk;have HC:=Lib.hid (sameKernel_any k a1 a w4 HJ2.out.kn HI2.out.kn);unfold KA.cells at HC;go_wp2_with fail;refine HC.out.mono ?_;rintro e w5 ⟨rfl,hb1⟩;clear c0 c1 c2 c3 c4 cl d0 d1 d2 d3 d4 dl HC;go_wp2;go_ret;exact⟨rfl,HB2.out.trans (hb1.mono HB2.out.size)⟩
end Go.Proofs.YtdjamdbamkhblabGreatDoor
namespace Go.Proofs.YtdjamdbamkhblabGreatDoor
open Go.RowKit
def touchMc (s:Mc) (i:Ins):Mc:=
 if rg s i.b<s.mem.length then (if i.op=8 then { s with regs:=s.regs.set i.a.toNat (s.mem.getD (rg s i.b) 0) } else { s with mem:=s.mem.set (rg s i.b) (rg s i.a) }) else s
def TouchPost (w0:World) (g:Nat) (C:Value) (s:Mc) (i:Ins) (en:Nat) (B T M:Value) (e:Ending) (w':World):Prop:=
 ∃ z:Int,Hid (z=if rg s i.b<s.mem.length then 0 else 3)∧e= .returned (.int .i64 z)∧Mach w0 w' g C (touchMc s i) en B T M
set_option maxHeartbeats 4000000 in
theorem touch_any (w0:World) (g en:Nat) (C B T M:Value) (s:Mc) (i:Ins) (w:World) (h:Mach w0 w g C s en B T M) (hs:McOk s) (hi:InsOk i) (ho:i.op=8∨i.op=9) (hml:s.mem.length≤1024):
  Calls Tryz.prog 105 #[.pointer (some ⟨g,0,none⟩),i.val] w (TouchPost w0 g C s i en B T M):=by
 obtain⟨o1,o2,a0,a7,b0,b7,c0,cw,c7⟩:=hi;obtain⟨o,a,b,c⟩:=i;simp only at o1 o2 a0 a7 b0 b7 c0 cw c7 ho ⊢;unfold Ins.val;simp only;obtain⟨bn,rfl⟩:∃ n:Nat,b=(n:Int):=⟨b.toNat,by omega⟩;obtain⟨an,rfl⟩:∃ n:Nat,a=(n:Int):=⟨a.toNat,by omega⟩;have hr8:=hs.regs;have hbn:(bn:Int)<8:=by omega
 have han:(an:Int)<8:=by omega
 have e1:=(h.blk.cell (4+bn)).trans (mc_reg bn (by omega));have e2:=(h.blk.cell (4+an)).trans (mc_reg an (by omega));have e3:=h.blk.cell 13;have hg:=h.blk.lt;have hg1:g<w.heap.size+1:=by omega
 have fz:=h.blk.frozen (4+an);obtain⟨A3,k3,hM⟩:=own_slice h.om;have hX:Hid (rg s (bn:Int)=s.regs.getD bn 0):=rfl;have hY:Hid (rg s (an:Int)=s.regs.getD an 0):=rfl;subst hM;simp[mcCells] at e3;unfold natV at e1 e2;obtain⟨x,hx⟩:∃ x,s.regs.getD bn 0=x:=⟨_,rfl⟩;obtain⟨y,hy⟩:∃ y,s.regs.getD an 0=y:=⟨_,rfl⟩;rw[hx] at e1;rw[hy] at e2;have HX:=Lib.hid hx;have HY:=Lib.hid hy;clear hx hy;have H:=Lib.hid h;clear h;have hwg:w.heap.size≠g:=by omega
 have hwg':g≠w.heap.size:=by omega
 by_cases hlt:x<s.mem.length
 ·obtain⟨q,cap,hv,hq,hql⟩:=H.out.om.form (by omega)
  injection hv with hv1 hv2 hv3
  subst hv1 hv3;clear hv2;have e4:=H.out.om.cells (g:=q) rfl x _ (natsV_at hlt);rw[add_plain,Nat.zero_add] at e4;unfold natV at e4;have hgq:g≠q:=fun e=>own_blk_ne H.out.om H.out.blk (by decide) (by rw[e];rfl)
  have hqg:q≠g:=Ne.symm hgq;have hq1:q<w.heap.size+1:=by omega
  have hwq:w.heap.size≠q:=by omega
  have hwq':q≠w.heap.size:=by omega
  obtain⟨v,hvv⟩:∃ v,s.mem.getD x 0=v:=⟨_,rfl⟩;rw[hvv] at e4;have HV:=Lib.hid hvv;clear hvv;have HE:Hid ((if rg s (bn:Int)<s.mem.length then (0:Int) else 3)=0):=if_pos (by rw[hX.out,HX.out];exact hlt);have fq:w.frozen? ⟨q,x,none⟩=false:=by
   rcases H.out.om.2 with⟨h0,_⟩|⟨g',cap',cur,hv,_,hh,_⟩
   ·cases h0
   ·injection hv with e1
    injection e1 with e1
    injection e1 with e1
    subst e1;exact Blk.frozen (t:=3) (cs:=cur) hh x
  rcases ho with rfl|rfl
  ·have HT:Hid (touchMc s ⟨8,(an:Int),(bn:Int),c⟩= { s with regs:=s.regs.set an v }):=by
    show _=_;unfold touchMc;simp only;rw[hX.out,HX.out,if_pos hlt,HV.out];rfl
   go_enter Tryz.func105,Tryz.ntmps105;go_wp2;go_quiet (fail);go_wp2;go_region_law (first|fail)
   all_goals
    go_wp2;go_ret;exact⟨_,HE.out.symm,rfl,by rw[HT.out];exact(H.out.later (Below.drewN' ((Below.refl w.heap.size w).alloc (Nat.le_refl _) _) _)).setreg hr8 an (by omega) _⟩
  ·have HT:Hid (touchMc s ⟨9,(an:Int),(bn:Int),c⟩= { s with mem:=s.mem.set x y }):=by
    show _=_;unfold touchMc;simp only;rw[hX.out,HX.out,if_pos hlt,hY.out,HY.out];rfl
   go_enter Tryz.func105,Tryz.ntmps105;go_wp2;go_quiet (fail);go_wp2;go_region_law (first|fail)
   all_goals
    go_wp2;go_ret;exact⟨_,HE.out.symm,rfl,by rw[HT.out];exact(H.out.later (Below.drewN' ((Below.refl w.heap.size w).alloc (Nat.le_refl _) _) _)).setmem rfl x y⟩
 ·have hge:s.mem.length≤x:=by omega
  have HE:Hid ((if rg s (bn:Int)<s.mem.length then (0:Int) else 3)=3):=if_neg (by rw[hX.out,HX.out];exact hlt);have HT:Hid (touchMc s ⟨o,(an:Int),(bn:Int),c⟩=s):=by
   show _=_;unfold touchMc;simp only;rw[hX.out,HX.out,if_neg hlt]
  clear hlt;go_enter Tryz.func105,Tryz.ntmps105;go_wp2;go_quiet (fail);go_wp2;go_ret;exact⟨_,HE.out.symm,rfl,by rw[HT.out];exact H.out.later (Below.drewN' ((Below.refl w.heap.size w).alloc (Nat.le_refl _) _) _)⟩
end Go.Proofs.YtdjamdbamkhblabGreatDoor
