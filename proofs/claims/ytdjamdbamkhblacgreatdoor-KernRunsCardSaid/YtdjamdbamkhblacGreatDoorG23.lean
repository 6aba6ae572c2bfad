/- The walks of the reference's ModuleCopy and KernelCopy: new memory that reads as the argument did. Condition: the argument reads as a module, as a kernel. By an AI agent. DidOf: what its walk holds on to. No condition. By an AI agent (xrdo0.py). -/
import Derived.Test.YtdjamdbamkhblacGreatDoorRCopyG
import Derived.Test.YtdjamdbamkhblacGreatDoorG22
set_option maxHeartbeats 8000000
namespace Go.Proofs.YtdjamdbamkhblacGreatDoor
open Go.RowKit
set_option linter.unusedVariables false
set_option linter.unusedSimpArgs false
theorem Iza (m:Mod) (A A':Option Addr) (c c':Nat) (w:World) (hr:RdI w w.heap.size A m.code) (hr':RdN w w.heap.size A' m.data) (hl:m.code.length*32≤140737488351232) (hl':m.data.length*8≤140737488351232):
  Calls Tryz.prog 62 #[.agg #[.string m.name, .slice A m.code.length c, .slice A' m.data.length c']] w fun e w'=>
   ∃ v u,e= .returned (.agg #[.string m.name,v,u])∧w'.ownsRow w.heap.size 104 4 v m.code.length (Azc m.code)∧w'.ownsRow w.heap.size 3 1 u m.data.length (intCells m.data)∧Below w.heap.size w w':=by
 have hb0:Below w.heap.size w ((w.alloc (.cells #[.string m.name, .slice A m.code.length c, .slice A' m.data.length c'] 47)).alloc (.cells #[.string ⟨#[]⟩, .slice none 0 0, .slice none 0 0] 47)):=((Below.refl _ _).alloc (Nat.le_refl _) _).alloc (by simp) _;have hbx:Blk ((w.alloc (.cells #[.string m.name, .slice A m.code.length c, .slice A' m.data.length c'] 47)).alloc (.cells #[.string ⟨#[]⟩, .slice none 0 0, .slice none 0 0] 47)) w.heap.size 47 #[.string m.name, .slice A m.code.length c, .slice A' m.data.length c']:=(Blk.new w _ _).alloc _;have hrs:Blk ((w.alloc (.cells #[.string m.name, .slice A m.code.length c, .slice A' m.data.length c'] 47)).alloc (.cells #[.string ⟨#[]⟩, .slice none 0 0, .slice none 0 0] 47)) (w.heap.size+1) 47 #[.string ⟨#[]⟩, .slice none 0 0, .slice none 0 0]:=Blk.new' (by simp);have R1:=Lib.hid ((hr.rd.below hb0).more hb0.size);have R2:=Lib.hid ((hr'.rd.below hb0).more hb0.size);have HB:=Lib.hid hb0;have HX:=Lib.hid hbx;have HS:=Lib.hid hrs;clear hb0 hbx hrs hr hr';go_enter Tryz.func62,Tryz.ntmps62;go_wp2_with fail;refine Pzc _ w.heap.size (w.heap.size+1) m.name A A' m.code.length c m.data.length c' m.code m.data _ _ ((Below.refl _ _).drew) HX.out HS.out R1.out R2.out hl hl' ?_;intro listed W y3 y4 y5 y6 y7 y8 y9 y10 y11 hall hJ;obtain⟨v,u,W1,hb1,ho1,ho2,rfl⟩:=hJ.f9 (hall 9 (by decide));have hs1:=HS.out.below hb1 HS.out.lt;obtain⟨z0,z1,z2, -, -, -,hsl⟩:=hs1.a3;simp at z0 z1 z2;have O1:=Lib.hid (ownsRow_setCell_below (ownsRow_setCell_below (ownsRow_setCell_below ho1 (a:=⟨w.heap.size+1,0,none⟩) (by simp) (.string m.name)) (a:=⟨w.heap.size+1,1,none⟩) (by simp) v) (a:=⟨w.heap.size+1,2,none⟩) (by simp) u);have O2:=Lib.hid (ownsRow_setCell_below (ownsRow_setCell_below (ownsRow_setCell_below ho2 (a:=⟨w.heap.size+1,0,none⟩) (by simp) (.string m.name)) (a:=⟨w.heap.size+1,1,none⟩) (by simp) v) (a:=⟨w.heap.size+1,2,none⟩) (by simp) u);have HE:=Lib.hid ((((HB.out.trans (hb1.mono HB.out.size)).setCell (p:=⟨w.heap.size+1,0,none⟩) (by simp) (.string m.name)).setCell (p:=⟨w.heap.size+1,1,none⟩) (by simp) v).setCell (p:=⟨w.heap.size+1,2,none⟩) (by simp) u);obtain⟨a1,k1,rfl⟩:=Az1 ho1;obtain⟨a2,k2,rfl⟩:=Az1 ho2;clear hJ hb1 ho1 ho2 hs1 R1 R2 HX HS;go_wp2;refine bodyPost_ret (v:= .agg #[.string m.name, .slice a1 m.code.length k1, .slice a2 m.data.length k2]) ?_ rfl ⟨_,_,rfl,own_base O1.out HB.out.size,own_base O2.out HB.out.size,HE.out⟩;simp[results,Tryz.results62,go_sem,z0,z1,z2]
set_option maxRecDepth 100000 in
theorem Lzm (k:Krn) (a:KA) (w:World) (hk:KrnAt w w.heap.size a k):
  Calls Tryz.prog 22 #[.agg (a.cells k)] w (Kze k w):=by
 have hW:Below w.heap.size w ((w.alloc (.cells (a.cells k) 30)).alloc (.cells nil5 30)):=((Below.refl w.heap.size w).alloc (Nat.le_refl _) _).alloc (by simp) _;have hbx:Blk ((w.alloc (.cells (a.cells k) 30)).alloc (.cells nil5 30)) w.heap.size 30 (a.cells k):=(Blk.new w _ _).alloc _;have hrs:Blk ((w.alloc (.cells (a.cells k) 30)).alloc (.cells nil5 30)) (w.heap.size+1) 30 nil5:=Blk.new' (by simp);have HK:=Lib.hid hk;have HW:=Lib.hid hW;have HX:=Lib.hid hbx;have HS:=Lib.hid hrs;have R1:=Lib.hid (((hk.mem.rd).below hW).more hW.size);have R2:=Lib.hid (((hk.nodes.rd).below hW).more hW.size);have R3:=Lib.hid (((hk.pipes.rd).below hW).more hW.size);clear hk hW hbx hrs;have l1:=HK.out.l1;have l2:=HK.out.l2;have l3:=HK.out.l3;unfold KA.cells at HW HX HS R1 R2 R3;unfold nil5 at HW HX HS R1 R2 R3;unfold KA.cells;go_enter Tryz.func22,Tryz.ntmps22;go_upto_region 1 with fail
 refine Pz8 _ w.heap.size (.slice a.a0 k.mods.length a.c0) (.slice a.a4 k.procs.length a.c4) a.a1 a.a2 a.a3 k.mem.length a.c1 k.nodes.length a.c2 k.pipes.length a.c3 k.mem k.nodes k.pipes _ _ ((Below.refl _ _).drew) HX.out R1.out R2.out R3.out l1 l2 l3 ?_;intro listed W y3 y6 y7 y8 y9 y10 y11 y12 y13 y14 y15 hall hJ;obtain⟨g,V1,V2,V3,W1,rfl,hge,hbl,hb1,ho1,ho2,ho3,rfl⟩:=hJ.f11 (hall 11 (by decide));have hC:CopyR w (lay5 W1 g (.slice none 0 0) V1 V2 V3 (.slice none 0 0)) a k g (.slice none 0 0) V1 V2 V3 (.slice none 0 0) 0 0 [] []:=
  CopyR.start rfl (HW.out.trans (hb1.mono HW.out.size)) (HX.out.below hb1 HX.out.lt) (HS.out.below hb1 HS.out.lt) (Nat.lt_of_lt_of_le (by simp) hge) hbl (own_base ho1 HW.out.size) (own_base ho2 HW.out.size) (own_base ho3 HW.out.size)
 clear hJ hb1 ho1 ho2 ho3 hbl hge R1 R2 R3 HX HS HW
 revert hC
 generalize lay5 W1 g (.slice none 0 0) V1 V2 V3 (.slice none 0 0)=Wn;intro hC;have HC:=Lib.hid hC;have y0:=HK.out.l0;clear hC;go_wp2;obtain⟨im,him,hmz0,hmz1,hmz2⟩:=info_parts Gz1;obtain⟨ip,hip,hpz0,hpz1,hpz2⟩:=info_parts Hzr;obtain⟨ie,hie,hez0,hez1,hez2⟩:=info_parts Ezf;go_loopw [4] (fun i wr=>Cnt k.mods.length i fun n=>∃ V0 ms,CopyR w wr a k g V0 V1 V2 V3 (.slice none 0 0) n 0 ms []) (fun i _=>k.mods.length - (intOf i).toNat)
 case atStart=>exact⟨0,Nat.zero_le _,rfl,_,_,HC.out⟩
 case round=>
  clear HC;obtain⟨n,hn,rfl,V0,ms,hC⟩:=hrel;obtain⟨x0, -, -, -,xl⟩:=hC.box.a2;simp[KA.cells] at x0;by_cases hlt:n<k.mods.length
  ·obtain⟨b,o,e1,hb,hc⟩:=(HK.out.mods.below hC.below) (by omega)
   obtain⟨A1,c1,A2,c2,z0,z1,z2,z3⟩:=hc n hlt;clear hc;rw[e1] at x0;have hlti:(n:Int)<(k.mods.length:Int):=by omega
   have hbs:b<wr.heap.size:=Nat.lt_of_lt_of_le hb hC.below.size;obtain⟨m,hm⟩:∃ m,m=k.mods[n]:=⟨_,rfl⟩;rw[←hm] at z0 z1 z2 z3;have hbox:Below wr.heap.size wr wr.drew:=(Below.refl wr.heap.size wr).drew;have ZM:=Lib.hid (((z3.more hC.below.size).keep (fun _ hp=>hbox.cell hp)).more hbox.size);have HM:=Lib.hid hm;have HC:=Lib.hid hC;have HE:=Lib.hid e1;have g0:=hC.blk.cell 0;have g1:g<wr.heap.size:=hC.blk.lt;have hU:=Tryz.underlying24;simp at g0;clear z3 hm hC e1 hb;go_wp2_with fail;go_region_law
    (first
      | (refine step_append_lies _ (by rfl) _ _ _ (by rfl) w.heap.size 47 im _ 3 64 hU him hmz0 hmz1 hmz2 rfl (by omega) V0 (k.mods.take n).length (Azy (k.mods.take n) ms) (by rfl) ?own ⟨w1.heap.size,0,none⟩ 1 1 [.string m.name, .slice a1 m.code.length k1, .slice a2 m.data.length k2] (by rfl) (by rfl) ?new ?one (by omega) ?len ?byt ?bas (w1.heap.size+1) ?siz ?_
         case own=>exact(own_below (own_below HC.out.made.mods hbox) hb1).alloc _
         case new=>exact World.news_of_block (fr:=(0,0)) (B:=w1.heap.size) (t:=47) (cs:= #[.string m.name, .slice a1 m.code.length k1, .slice a2 m.data.length k2]) (Blk.new' rfl)
         case one=>(intro u hu;simp at hu;rcases hu with rfl|rfl|rfl<;>rfl)
         case len=>(have:=y0;simp[maxLen];omega)
         case byt=>(have:=y0;simp;omega)
         case bas=>(have:=HC.out.below.size;have:=hbox.size;have:=hb1.size;simp at*;omega)
         case siz=>simp
         intro gq cap w2 hown2 hgrow2 hat2 hlt2;have kb:Blk w2 g 30 #[V0,V1,V2,V3, .slice none 0 0]:=((((HC.out.blk.below hbox HC.out.blk.lt).below hb1 (HC.out.blk.below hbox HC.out.blk.lt).lt).alloc _).tch (Tch.of_grown ((own_below (own_below HC.out.made.mods hbox) hb1).alloc _) hgrow2) (by decide));obtain⟨k4, -,kf, -⟩:=kb.a2;simp at k4;clear kb)
      | (go_simp
         go_at_call 62;refine(Iza m A1 A2 c1 c2 _ ZM.out.code ZM.out.data ZM.out.cl ZM.out.dl).mono ?_;rintro e w1 ⟨v1,v2,rfl,hv1,hv2,hb1⟩;obtain⟨a1,k1,rfl⟩:=Az1 hv1;obtain⟨a2,k2,rfl⟩:=Az1 hv2;have kb1:=((HC.out.blk.below hbox HC.out.blk.lt).below hb1 (HC.out.blk.below hbox HC.out.blk.lt).lt).cell 0;have kb2:g<w1.heap.size:=((HC.out.blk.below hbox HC.out.blk.lt).below hb1 (HC.out.blk.below hbox HC.out.blk.lt).lt).lt;simp at kb1))
   all_goals
    have hN:=HC.out.nextM' hlt HM.out ((hbox.trans (hb1.mono hbox.size)).alloc (Nat.le_trans hbox.size hb1.size) _) ((own_base hv1 hbox.size).alloc _) ((own_base hv2 hbox.size).alloc _) hown2 hgrow2;rw[List.length_take,Nat.min_eq_left (Nat.le_of_lt hlt)] at hN;go_wp2;go_roundw
    case rel=>exact⟨n+1,by omega,by go_num,_,_,hN⟩
    case measure=>simp[intOf];omega
  ·obtain rfl:n=k.mods.length:=by omega
   have hlti:¬ (k.mods.length:Int)<(k.mods.length:Int):=by omega
   have HC:=Lib.hid hC;have l4:=HK.out.l4;clear hC;go_wp2;go_loopw [5] (fun i wr=>Cnt k.procs.length i fun n=>∃ V4 es,CopyR w wr a k g V0 V1 V2 V3 V4 k.mods.length n ms es) (fun i _=>k.procs.length - (intOf i).toNat)
   case atStart=>exact⟨0,Nat.zero_le _,rfl,_,_,HC.out⟩
   case round=>
    clear x0 xl HC;obtain⟨n,hn,rfl,V4,es,hC⟩:=hrel;have x4:=hC.box.cell 4;have xl:=hC.box.lt;simp[KA.cells] at x4;by_cases hlt:n<k.procs.length
    ·obtain⟨b,o,e1,hb,hc⟩:=(HK.out.procs.below hC.below) (by omega)
     obtain⟨A1,c1,z0,z1,z2⟩:=hc n hlt;clear hc;rw[e1] at x4;have hlti:(n:Int)<(k.procs.length:Int):=by omega
     have hbs:b<wr.heap.size:=Nat.lt_of_lt_of_le hb hC.below.size;obtain⟨m,hm⟩:∃ m,m=k.procs[n]:=⟨_,rfl⟩;rw[←hm] at z0 z1 z2;have hbox:Below wr.heap.size wr wr.drew:=(Below.refl wr.heap.size wr).drew;have ZM:=Lib.hid (((z2.more hC.below.size).keep (fun _ hp=>hbox.cell hp)).more hbox.size);have HM:=Lib.hid hm;have HE:=Lib.hid e1;obtain⟨A4,d4,rfl⟩:=Az1 hC.made.procs;have hl4:(k.procs.take n).length=n:=by rw[List.length_take];omega
     have hOP:Hid (wr.ownsRow w.heap.size 52 2 (.slice A4 n d4) n (Azq (k.procs.take n) es)):=by
      have:=hC.made.procs;simp only[hl4] at this;exact this
     have HBG:Hid (Blk wr g 30 #[V0,V1,V2,V3, .slice A4 n d4]):=by
      have:=hC.blk;simp only[hl4] at this;exact this
     have HC:=Lib.hid hC;have HBX:Hid (Blk wr w.heap.size 30 #[.slice a.a0 k.mods.length a.c0, .slice a.a1 k.mem.length a.c1, .slice a.a2 k.nodes.length a.c2, .slice a.a3 k.pipes.length a.c3, .slice (some ⟨b,o,none⟩) k.procs.length a.c4]):=by
      have:=HC.out.box;unfold KA.cells at this;rw[HE.out] at this;exact this
     clear z2 hm hC e1 hb;go_wp2_with fail;refine Pzh wr w.heap.size w.heap.size g b o k.procs.length a.c4 n d4 n m.ends.length c1 A4 A1 m.live (Azq (k.procs.take n) es) m.ends _ _ _ _ _ _ _ _ wr _ hbox HC.out.below.size HBX.out HBG.out hbs z0 z1 hlt ?rd ZM.out.el hOP.out (by omega) ?_
     case rd=>exact((ZM.out.ends.rd).keep (fun _ hp=>(hbox.cell hp).symm))
     intro listed W y41 y42 y43 y44 y45 y46 y47 y48 y49 y50 y51 y52 y53 y54 y55 y56 y57 y58 y59 hall hJ;obtain⟨V,x,W1,W2,hb1,hx,hO,hG,rfl⟩:=hJ.f19 (hall 19 (by decide));have hN:=HC.out.nextP' (w1:=W2) (x:=x) hlt HM.out hb1 hx (by rw[hl4];exact hO) (by rw[hl4];exact hG);clear hJ hb1 hx hO hG hOP HBG HBX HC z0 z1 ZM x4 xl
     revert hN
     generalize W2.setCell ⟨g,4,none⟩ V=Wn;intro hN;have HN:=Lib.hid hN;clear hN;go_wp2;go_roundw
     case rel=>exact⟨n+1,by omega,by go_num,_,_,HN.out⟩
     case measure=>simp[intOf];omega
    ·have hn':n=k.procs.length:=by omega
     have hlti:¬ (n:Int)<(k.procs.length:Int):=by omega
     have HN:=Lib.hid hn';obtain⟨B0,d0,rfl⟩:=Az1 hC.made.mods;obtain⟨B1,d1,rfl⟩:=Az1 hC.made.mem;obtain⟨B2,d2,rfl⟩:=Az1 hC.made.nodes;obtain⟨B3,d3,rfl⟩:=Az1 hC.made.pipes;obtain⟨B4,d4,rfl⟩:=Az1 hC.made.procs;obtain⟨q0,q1,q2,q3,q4,f0,f1,f2,f3,f4, -⟩:=hC.res.a5;obtain⟨p0,p1,p2,p3,p4, -⟩:=hC.blk.a5;simp only[List.getElem?_toArray,List.getElem?_cons_zero,List.getElem?_cons_succ] at q0 q1 q2 q3 q4 p0 p1 p2 p3 p4;have HC:=Lib.hid hC;clear hC hn';have hF:=HC.out.fin rfl HN.out (.slice B0 k.mods.length d0) (.slice B1 k.mem.length d1) (.slice B2 k.nodes.length d2) (.slice B3 k.pipes.length d3) (.slice B4 n d4);simp only[List.length_take,Nat.min_self,Nat.min_eq_left hn] at hF;have HF:=Lib.hid hF;clear hF;go_wp2;refine bodyPost_ret (v:= .agg #[.slice B0 k.mods.length d0, .slice B1 k.mem.length d1, .slice B2 k.nodes.length d2, .slice B3 k.pipes.length d3, .slice B4 n d4]) ?_ rfl ⟨_,_,_,_,_,_,_,rfl,HF.out⟩;simp[results,Tryz.results22,go_sem,q0,q1,q2,q3,q4]
structure DidAt (w W:World) (a:KA) (k:Krn) (ms:List (Value × Value)) (es:List Value) (cs:Array Value) (bk bo:Nat) (u0 u1:Int) (s:ByteArray):Prop where
 ks:KS w.heap.size W bk a k ms es
 fr:Below w.heap.size w W
 ac:Blk W (w.heap.size+1) 40 cs
 rk:∃ c5,Blk W (w.heap.size+2) 30 c5∧c5.size=5
 ra:Blk W (w.heap.size+3) 36 #[.int .i64 0, .int .i64 0, .string ⟨#[]⟩]
 ot:Blk W bo 36 #[.int .i64 u0, .int .i64 u1, .string s]
 bk3:w.heap.size+3<bk
 bo3:w.heap.size+3<bo
section
variable {w W W':World} {a a':KA} {k k':Krn} {ms ms':List (Value × Value)} {es es':List Value} {cs:Array Value} {bk bo:Nat} {u0 u1 v0 v1:Int} {s t:ByteArray}
theorem DidAt.next (h:DidAt w W a k ms es cs bk bo u0 u1 s) (hk:KS w.heap.size W' bk a' k' ms' es') (hf:Fr w.heap.size W W'):DidAt w W' a' k' ms' es' cs bk bo u0 u1 s:=by
 obtain⟨c5,h1,e1⟩:=h.rk;obtain⟨c6,h2,e2⟩:=hf.shape _ c5 h1;exact⟨hk,h.fr.trans hf.low',hf.blk h.ac (by decide),⟨c6,h2,e2.trans e1⟩,hf.blk h.ra (by decide),hf.blk h.ot (by decide),h.bk3,h.bo3⟩
theorem DidAt.below (h:DidAt w W a k ms es cs bk bo u0 u1 s) (hb:Below W.heap.size W W'):DidAt w W' a k ms es cs bk bo u0 u1 s:=
 h.next (h.ks.below hb) (Fr.low hb (Nat.le_of_lt h.ks.lt))
theorem DidAt.set_ (h:DidAt w W a k ms es cs bk bo u0 u1 s) (i:Nat) (u:Value) (he:(#[.int .i64 u0, .int .i64 u1, .string s]:Array Value).setIfInBounds i u= #[.int .i64 v0, .int .i64 v1, .string t]):
  DidAt w (W.setCell ⟨bo,i,none⟩ u) a k ms es cs bk bo v0 v1 t:=by
 obtain⟨c5,h1,e1⟩:=h.rk;have ht:=Tch.of_set (p:=⟨bo,i,none⟩) h.ot u;refine⟨h.ks.ans h.ot u,h.fr.setCell (p:=⟨bo,i,none⟩) (by have:=h.bo3;show _≤bo;omega) u,h.ac.tch ht (by decide),⟨c5,h1.tch ht (by decide),e1⟩,h.ra.far (p:=⟨bo,i,none⟩) (by have:=h.bo3;show _≠bo;omega) u,?_,h.bk3,h.bo3⟩;have:=h.ot.set_ i u;rw[he] at this;exact this
theorem DidAt.fin (h:DidAt w W a k ms es cs bk bo u0 u1 s) {k0:Krn} {x:Akt} (he:doE k0 x=0) (hr:doK k0 x=(k,⟨u0,u1,s⟩)) (hW:W'=(((lay5 W (w.heap.size+2) (.slice a.a0 k.mods.length a.c0) (.slice a.a1 k.mem.length a.c1) (.slice a.a2 k.nodes.length a.c2) (.slice a.a3 k.pipes.length a.c3) (.slice a.a4 k.procs.length a.c4)).setCell ⟨w.heap.size+3,0,none⟩ (.int .i64 u0)).setCell ⟨w.heap.size+3,1,none⟩ (.int .i64 u1)).setCell ⟨w.heap.size+3,2,none⟩ (.string s)):
  DoPost w k0 x (.returned (.tuple #[.agg #[.slice a.a0 k.mods.length a.c0, .slice a.a1 k.mem.length a.c1, .slice a.a2 k.nodes.length a.c2, .slice a.a3 k.pipes.length a.c3, .slice a.a4 k.procs.length a.c4], .agg #[.int .i64 u0, .int .i64 u1, .string s], .int .i64 0])) W':=by
 obtain⟨c5,h5,e5⟩:=h.rk;unfold DoPost;rw[hr];obtain⟨WL,hWL⟩:∃ WL,WL=lay5 W (w.heap.size+2) (.slice a.a0 k.mods.length a.c0) (.slice a.a1 k.mem.length a.c1) (.slice a.a2 k.nodes.length a.c2) (.slice a.a3 k.pipes.length a.c3) (.slice a.a4 k.procs.length a.c4):=⟨_,rfl⟩;rw[←hWL] at hW;have g:=Bz8 W (w.heap.size+2) (.slice a.a0 k.mods.length a.c0) (.slice a.a1 k.mem.length a.c1) (.slice a.a2 k.nodes.length a.c2) (.slice a.a3 k.pipes.length a.c3) (.slice a.a4 k.procs.length a.c4);rw[←hWL] at g;have t1:Tch 30 W WL:=⟨g.os,g.tape,g.output,g.size,fun q hq hne=>g.block q hq fun e=>by
  injection e with e
  subst e;exact hne _ _ h5⟩
 have b1:Below w.heap.size W WL:=⟨g.os,g.tape,g.output,g.size,fun q hq=>g.block q (by have:=h.fr.size;omega) (fun e=>by injection e with e;omega)⟩;have r0:=h.ra.tch t1 (by decide);have t2:=Tch.of_set (p:=⟨w.heap.size+3,0,none⟩) r0 (.int .i64 u0);have r1:=r0.set_ 0 (.int .i64 u0);have t3:=Tch.of_set (p:=⟨w.heap.size+3,1,none⟩) r1 (.int .i64 u1);have r2:=r1.set_ 1 (.int .i64 u1);have t4:=Tch.of_set (p:=⟨w.heap.size+3,2,none⟩) r2 (.string s);have hC:=((h.ks.cp.tch t1 (by decide) (by decide) (by decide) (by decide) (by decide) (by decide) (by decide)).tch ((t2.trans t3).trans t4) (by decide) (by decide) (by decide) (by decide) (by decide) (by decide) (by decide));rw[←hW] at hC;refine⟨?_, .inr ⟨he,a,ms,es,rfl,hC,h.ks.fits⟩⟩;rw[hW];exact(((h.fr.trans b1).setCell (p:=⟨w.heap.size+3,0,none⟩) (Nat.le_add_right _ 3) _).setCell (p:=⟨w.heap.size+3,1,none⟩) (Nat.le_add_right _ 3) _).setCell (p:=⟨w.heap.size+3,2,none⟩) (Nat.le_add_right _ 3) _
theorem DidAt.mk' {W0:World} (hW0:W0=(((w.alloc (.cells (a.cells k) 30)).alloc (.cells cs 40)).alloc (.cells #[.slice none 0 0, .slice none 0 0, .slice none 0 0, .slice none 0 0, .slice none 0 0] 30)).alloc (.cells #[.int .i64 0, .int .i64 0, .string ⟨#[]⟩] 36))
  (hb:Below W0.heap.size W0 W) (hk:KS W0.heap.size W bk a' k ms es) (ho:Blk W bo 36 #[.int .i64 u0, .int .i64 u1, .string s]) (hbo:W0.heap.size≤bo):DidAt w W a' k ms es cs bk bo u0 u1 s:=by
 have hn:W0.heap.size=w.heap.size+4:=by rw[hW0];simp
 have b1:Blk W0 (w.heap.size+1) 40 cs:=by rw[hW0];exact((Blk.new' (by simp)).alloc _).alloc _
 have b2:Blk W0 (w.heap.size+2) 30 #[.slice none 0 0, .slice none 0 0, .slice none 0 0, .slice none 0 0, .slice none 0 0]:=by rw[hW0];exact(Blk.new' (by simp)).alloc _
 have b3:Blk W0 (w.heap.size+3) 36 #[.int .i64 0, .int .i64 0, .string ⟨#[]⟩]:=by rw[hW0];exact Blk.new' (by simp)
 have hb0:Below w.heap.size w W0:=by
  rw[hW0];exact((((Below.refl w.heap.size w).alloc (Nat.le_refl _) _).alloc (by simp) _).alloc (by simp;omega) _).alloc (by simp;omega) _
 have hlo:=hk.lo;exact⟨⟨by omega,hk.blk,hk.cp.base (by omega),hk.fits⟩,hb0.trans (hb.mono (by omega)),b1.below hb b1.lt,⟨_,b2.below hb b2.lt,rfl⟩,b3.below hb b3.lt,ho,by omega,by omega⟩
theorem DidAt.start {W0 W1 W2:World} {A0 A1 A2 A3 A4:Option Addr} {c0 c1 c2 c3 c4:Nat} {a0:KA} (hW0:W0=(((w.alloc (.cells (a0.cells k) 30)).alloc (.cells cs 40)).alloc (.cells #[.slice none 0 0, .slice none 0 0, .slice none 0 0, .slice none 0 0, .slice none 0 0] 30)).alloc (.cells #[.int .i64 0, .int .i64 0, .string ⟨#[]⟩] 36))
  (hb:Below W0.heap.size W0 W1) (hb2:Below W1.heap.size W1 W2) (hC:Copied W2 W1.heap.size (.slice A0 k.mods.length c0) (.slice A1 k.mem.length c1) (.slice A2 k.nodes.length c2) (.slice A3 k.pipes.length c3) (.slice A4 k.procs.length c4) k ms es) (hf:k.fits):
  DidAt w ((W2.alloc (.cells #[.slice A0 k.mods.length c0, .slice A1 k.mem.length c1, .slice A2 k.nodes.length c2, .slice A3 k.pipes.length c3, .slice A4 k.procs.length c4] 30)).alloc (.cells #[.int .i64 0, .int .i64 0, .string ⟨#[]⟩] 36))
   ⟨A0,c0,A1,c1,A2,c2,A3,c3,A4,c4⟩ k ms es cs W2.heap.size (W2.heap.size+1) 0 0 ⟨#[]⟩:=by
 have g0:=(Below.refl W2.heap.size W2).alloc (Nat.le_refl _) (.cells #[.slice A0 k.mods.length c0, .slice A1 k.mem.length c1, .slice A2 k.nodes.length c2, .slice A3 k.pipes.length c3, .slice A4 k.procs.length c4] 30);have g3:=g0.alloc (by simp) (.cells #[.int .i64 0, .int .i64 0, .string ⟨#[]⟩] 36);have b2:=(Blk.new W2 30 #[.slice A0 k.mods.length c0, .slice A1 k.mem.length c1, .slice A2 k.nodes.length c2, .slice A3 k.pipes.length c3, .slice A4 k.procs.length c4]).alloc (.cells #[.int .i64 0, .int .i64 0, .string ⟨#[]⟩] 36);have hbs:=hb.size;have hbs2:=hb2.size;exact DidAt.mk' hW0 (hb.trans ((hb2.trans (g3.mono hbs2)).mono hbs)) ⟨by omega,b2,(hC.base hbs).below g3,hf⟩ (Blk.new' (by simp)) (by omega)
theorem Lzt {B:Nat} {W W':World} (h:Below B W W') (p:Addr) (v:Value):Below B (W.setCell p v) (W'.setCell p v):=by
 refine⟨h.os,h.tape,h.output,by simpa using h.size,fun q hq=>?_⟩;have:=h.block q hq;simp only[World.setCell,Array.getElem?_modify,this]
structure InR (w W0 W:World) (a:KA) (k:Krn) (ms:List (Value × Value)) (es:List Value) (cs:Array Value) (bk bo:Nat) (u0 u1:Int) (bm:Nat) (m:Mod) (VC VD:Value):Prop where
 d0:DidAt w W0 a k ms es cs bk bo u0 u1 ⟨#[]⟩
 bl:Below W0.heap.size W0 W
 md:Blk W bm 47 #[.string m.name,VC,VD]
 hb:W0.heap.size≤bm
 oc:W.ownsRow W0.heap.size 104 4 VC m.code.length (Azc m.code)
 od:W.ownsRow W0.heap.size 3 1 VD m.data.length (intCells m.data)
structure InD (w W:World) (a:KA) (k:Krn) (ms:List (Value × Value)) (es:List Value) (cs:Array Value) (bk bo:Nat) (u0 u1:Int) (bm:Nat) (m:Mod) (VC VD:Value) (N:Nat):Prop where
 dd:DidAt w W a k ms es cs bk bo u0 u1 ⟨#[]⟩
 md:Blk W bm 47 #[.string m.name,VC,VD]
 od:W.ownsRow N 3 1 VD m.data.length (intCells m.data)
 a1:∃ b1,a.a1=some ⟨b1,0,none⟩∧b1<N
 hb:N≤bm
section
variable {W0:World} {bm N:Nat} {m:Mod} {VC VD:Value}
theorem InR.at_ (h:InR w W0 W a k ms es cs bk bo u0 u1 bm m VC VD):DidAt w W a k ms es cs bk bo u0 u1 ⟨#[]⟩:=h.d0.below h.bl
theorem InR.below (h:InR w W0 W a k ms es cs bk bo u0 u1 bm m VC VD) (hb:Below W.heap.size W W'):InR w W0 W' a k ms es cs bk bo u0 u1 bm m VC VD:=
 ⟨h.d0,h.bl.trans (hb.mono h.bl.size),h.md.below hb h.md.lt,h.hb,own_below h.oc hb,own_below h.od hb⟩
theorem InR.set_ (h:InR w W0 W a k ms es cs bk bo u0 u1 bm m VC VD) (i:Nat) (u:Value) (he:(#[.int .i64 u0, .int .i64 u1, .string ⟨#[]⟩]:Array Value).setIfInBounds i u= #[.int .i64 v0, .int .i64 v1, .string ⟨#[]⟩]):
  InR w (W0.setCell ⟨bo,i,none⟩ u) (W.setCell ⟨bo,i,none⟩ u) a k ms es cs bk bo v0 v1 bm m VC VD:=by
 have hlt:=h.d0.ot.lt;have hb:=h.hb;have ht:=Tch.of_set (p:=⟨bo,i,none⟩) h.at_.ot u;have hs:(W0.setCell ⟨bo,i,none⟩ u).heap.size=W0.heap.size:=by simp
 refine⟨h.d0.set_ i u he,?_,h.md.far (p:=⟨bo,i,none⟩) (by show _≠bo;omega) u,by rw[hs];exact hb,?_,?_⟩
 ·rw[hs];exact Lzt h.bl _ _
 ·rw[hs];exact Az4 h.oc ht (by decide)
 ·rw[hs];exact Az4 h.od ht (by decide)
theorem InR.start {w1:World} (h:DidAt w W0 a k ms es cs bk bo u0 u1 ⟨#[]⟩) (hb:Below W0.heap.size W0 w1) (hc:w1.ownsRow W0.heap.size 104 4 VC m.code.length (Azc m.code)) (hd:w1.ownsRow W0.heap.size 3 1 VD m.data.length (intCells m.data)):
  InR w W0 (w1.alloc (.cells #[.string m.name,VC,VD] 47)) a k ms es cs bk bo u0 u1 w1.heap.size m VC VD:=by
 have g1:=(Below.refl w1.heap.size w1).alloc (Nat.le_refl _) (.cells #[.string m.name,VC,VD] 47);exact⟨h,hb.trans (g1.mono hb.size),Blk.new w1 _ _,hb.size,own_below hc g1,own_below hd g1⟩
theorem InR.next {w1:World} {V0':Value} (h:InR w W0 W a k ms es cs bk bo u0 u1 bm m VC VD) (hb:Below W.heap.size W W') (h1:w1.ownsRow w.heap.size 47 3 V0' (k.mods.length+1) (Azy k.mods ms++ [.string m.name,VC,VD]))
  (hg:W'.grownBy w1 (Value.slice a.a0 k.mods.length a.c0).ownBlock) (hm:Az7 m=0) (hk:KOk k) (h8:k.mods.length<8):
  ∃ A c,V0'= .slice A (k.mods.length+1) c∧InD w (w1.setCell ⟨bk,0,none⟩ V0') { a with a0:=A,c0:=c } { k with mods:=k.mods++ [m] } (ms++ [(VC,VD)]) es cs bk bo u0 u1 bm m VC VD W0.heap.size:=by
 have h':=h.below hb;obtain⟨q1,q2,q3⟩:=Dzu hm;obtain⟨A,c,e,hK,hF⟩:=h'.d0.ks.modApp (w:=W') h'.bl h'.oc h'.od h1 hg ⟨by omega,by omega,by omega⟩ (by omega);refine⟨A,c,e,h'.at_.next hK hF,?_,?_,?_,h'.hb⟩
 ·have hne:some bm≠(Value.slice a.a0 k.mods.length a.c0).ownBlock:=fun e=>by
   have:=(h'.d0.ks.cp.mods.lt bm e.symm).2;have:=h'.hb;omega
  have hgb:bm≠bk:=by have:=h'.d0.ks.blk.lt;have:=h'.hb;omega
  exact(h'.md.grown hg hne).far (p:=⟨bk,0,none⟩) hgb _
 ·have t1:Tch 47 W' w1:=Tch.of_grown h'.at_.ks.cp.mods hg
  have t2:=Tch.of_set (p:=⟨bk,0,none⟩) (h'.at_.ks.blk.tch t1 (by decide)) V0';exact Az4 (Az4 h'.od t1 (by decide)) t2 (by decide)
 ·have hn:=h'.d0.ks.cp.mem
  obtain⟨b1,e1,_,hl⟩:=Azf hn (by have:=hk.l1;omega);exact⟨b1,e1,hl⟩
theorem InD.below (h:InD w W a k ms es cs bk bo u0 u1 bm m VC VD N) (hb:Below W.heap.size W W'):InD w W' a k ms es cs bk bo u0 u1 bm m VC VD N:=
 ⟨h.dd.below hb,h.md.below hb h.md.lt,own_below h.od hb,h.a1,h.hb⟩
theorem InD.word {b1:Nat} (h:InD w W a k ms es cs bk bo u0 u1 bm m VC VD N) (e1:a.a1=some ⟨b1,0,none⟩) (i:Nat) (n:Int):
  InD w (W.setCell ⟨b1,i,none⟩ (.int .i64 n)) a { k with mem:=k.mem.set i n } ms es cs bk bo u0 u1 bm m VC VD N:=by
 obtain⟨hK,hF⟩:=h.dd.ks.word (i:=i) e1 n;obtain⟨b2,e2,hN⟩:=h.a1;obtain rfl:b1=b2:=by rw[e1] at e2;injection e2 with e2;injection e2
 have hb:=h.hb;refine⟨h.dd.next hK hF,h.md.far (p:=⟨b1,i,none⟩) (by show _≠b1;omega) _,?_,h.a1,hb⟩;refine ownsRow_setCell_other h.od (a:=⟨b1,i,none⟩) (fun e=>?_) _;have:=(h.od.lt b1 e).1;omega
end
def layM (M d:List Int) (o j:Nat):List Int:=M.take o++(d++List.replicate (64 - d.length) 0).take j++M.drop (o+j)
theorem Pzb {M d:List Int} {o j:Nat} (hd:d.length≤64) (ho:o+64≤M.length) (hj:j≤64):(layM M d o j).length=M.length:=by
 unfold layM;simp only[List.length_append,List.length_take,List.length_drop,List.length_replicate];omega
theorem Nzb (M d:List Int) (o:Nat):layM M d o 0=M:=by unfold layM;simp
theorem Pza {M d:List Int} {o:Nat} (hd:d.length≤64):layM M d o 64=M.take o++(d++List.replicate (64 - d.length) 0)++M.drop (o+64):=by
 unfold layM;rw[List.take_of_length_le (l:=d++List.replicate (64 - d.length) 0) (by simp;omega)]
theorem Lz1 {M d:List Int} {o j:Nat} (hd:d.length≤64) (ho:o+64≤M.length) (hj:j<64) {v:Int} (hv:(d++List.replicate (64 - d.length) 0)[j]'(by simp;omega)=v):(layM M d o j).set (o+j) v=layM M d o (j+1):=by
 have h1:M.drop (o+j)=M[o+j]'(by omega)::M.drop (o+(j+1)):=List.drop_eq_getElem_cons (by omega);have hl:(M.take o++(d++List.replicate (64 - d.length) 0).take j).length=o+j:=by
  simp only[List.length_append,List.length_take,List.length_replicate];omega
 unfold layM;rw[h1,List.set_append_right _ _ (by omega),hl,Nat.sub_self,List.set_cons_zero, ←List.take_append_getElem (i:=j) (l:=d++List.replicate (64 - d.length) 0) (by simp;omega),hv];simp only[List.append_assoc,List.singleton_append,List.cons_append,List.nil_append]
theorem Rz7 {M d:List Int} {o j:Nat} (hd:d.length≤64) (ho:o+64≤M.length) (hj:j<64) (h:d.length≤j):(layM M d o j).set (o+j) 0=layM M d o (j+1):=
 Lz1 hd ho hj (by rw[List.getElem_append_right h];simp)
theorem Rz8 {M d:List Int} {o j:Nat} (hd:d.length≤64) (ho:o+64≤M.length) (hj:j<d.length):((layM M d o j).set (o+j) 0).set (o+j) d[j]=layM M d o (j+1):=by
 rw[List.set_set];exact Lz1 hd ho (by omega) (by rw[List.getElem_append_left hj])
end
end Go.Proofs.YtdjamdbamkhblacGreatDoor
