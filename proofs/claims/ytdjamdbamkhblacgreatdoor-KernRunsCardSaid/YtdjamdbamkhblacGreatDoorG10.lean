/- The walk of kern.Copy. kern.Do: what its walks share. No condition. -/
import Derived.Test.YtdjamdbamkhblacGreatDoorG09
namespace Go.Proofs.YtdjamdbamkhblacGreatDoor
open Go.RowKit
def nil5:Array Value:= #[.slice none 0 0, .slice none 0 0, .slice none 0 0, .slice none 0 0, .slice none 0 0]
theorem CopyR.start {w0 W:World} {a:KA} {k:Krn} {g:Nat} {V1 V2 V3:Value} {cs:Array Value} (hs:cs.size=5) (hb:Below w0.heap.size w0 W) (box:Blk W w0.heap.size 30 (a.cells k)) (res:Blk W (w0.heap.size+1) 30 nil5)
  (lo:w0.heap.size+1<g) (blk:Blk W g 30 cs) (h1:W.ownsRow w0.heap.size 3 1 V1 k.mem.length (intCells k.mem)) (h2:W.ownsRow w0.heap.size 49 4 V2 k.nodes.length (Azk k.nodes))
  (h3:W.ownsRow w0.heap.size 9 1 V3 k.pipes.length (strCells k.pipes)):CopyR w0 (lay5 W g (.slice none 0 0) V1 V2 V3 (.slice none 0 0)) a k g (.slice none 0 0) V1 V2 V3 (.slice none 0 0) 0 0 [] []:=by
 have hg:=Bz8 W g (.slice none 0 0) V1 V2 V3 (.slice none 0 0);have far:∀ {q:Nat} {t:TypeId} {cs:Array Value},Blk W q t cs→q≠g→Blk (lay5 W g (.slice none 0 0) V1 V2 V3 (.slice none 0 0)) q t cs:=fun hq hne=>hq.grown hg (fun e=>hne (by injection e))
 refine⟨hb.trans ⟨hg.os,hg.tape,hg.output,hg.size,fun q hq=>hg.block q (Nat.lt_of_lt_of_le hq hb.size) (fun e=>by injection e with e;omega)⟩,far box (by omega),far res (by omega),lo,blk.lay5 hs ..,?_⟩;exact⟨World.ownsRow_nil _ _ _ _,trivial,h1.kept hg (.inr (Aza h1 blk (by decide))),h2.kept hg (.inr (Aza h2 blk (by decide))),h3.kept hg (.inr (Aza h3 blk (by decide))),World.ownsRow_nil _ _ _ _,trivial,by simp,List.Pairwise.nil⟩
abbrev CopyS (w:World) (a:KA) (k:Krn) (w':World):Prop:=
 w'.cell? ⟨w.heap.size,1,none⟩=some (.slice a.a1 k.mem.length a.c1)∧w'.cell? ⟨w.heap.size,2,none⟩=some (.slice a.a2 k.nodes.length a.c2)∧w'.cell? ⟨w.heap.size,3,none⟩=some (.slice a.a3 k.pipes.length a.c3)∧
  Below w.heap.size w w'∧w.heap.size+1<w'.heap.size
theorem CopyS.next {w W W':World} {a:KA} {k:Krn} (h:CopyS w a k W) (hb:Below W.heap.size W W'):CopyS w a k W':=by
 obtain⟨h1,h2,h3,h4,h5⟩:=h;exact⟨(hb.cell (p:=⟨w.heap.size,1,none⟩) (Nat.lt_of_succ_lt h5)).trans h1,(hb.cell (p:=⟨w.heap.size,2,none⟩) (Nat.lt_of_succ_lt h5)).trans h2,(hb.cell (p:=⟨w.heap.size,3,none⟩) (Nat.lt_of_succ_lt h5)).trans h3,
  h4.trans (hb.mono h4.size),Nat.lt_of_lt_of_le h5 hb.size⟩
theorem CopyS.start (w:World) (a:KA) (k:Krn):CopyS w a k ((w.alloc (.cells #[.slice a.a0 k.mods.length a.c0, .slice a.a1 k.mem.length a.c1, .slice a.a2 k.nodes.length a.c2, .slice a.a3 k.pipes.length a.c3, .slice a.a4 k.procs.length a.c4] 30)).alloc (.cells #[.slice none 0 0, .slice none 0 0, .slice none 0 0, .slice none 0 0, .slice none 0 0] 30)).drew:=
 ⟨by simp,by simp,by simp,((((Below.refl w.heap.size w).alloc (Nat.le_refl _) _).alloc (by simp) _).drew),by simp⟩
theorem CopyS.swap {w W:World} {a:KA} {k:Krn} {o:Obj} (h:CopyS w a k (W.alloc o)) (o':Obj):CopyS w a k (W.alloc o'):=by
 obtain⟨h1,h2,h3,h4,h5⟩:=h;have hz:w.heap.size<W.heap.size:=by simp at h5;omega
 have far:∀ j,(W.alloc o').cell? ⟨w.heap.size,j,none⟩=(W.alloc o).cell? ⟨w.heap.size,j,none⟩:=fun j=>by
  rw[World.cell?_alloc_lt W o' _ hz,World.cell?_alloc_lt W o _ hz]
 exact⟨(far 1).trans h1,(far 2).trans h2,(far 3).trans h3,⟨h4.os,h4.tape,h4.output,by simp;omega,fun q hq=>by
  have e:=h4.block q hq;rw[Below.heap_alloc W o q (by omega)] at e;rw[Below.heap_alloc W o' q (by omega)];exact e⟩,by simp;omega⟩
def Nil5At (w:World) (g:Nat):Prop:=w.cell? ⟨g,0,none⟩=some (.slice none 0 0)∧w.cell? ⟨g,1,none⟩=some (.slice none 0 0)∧w.cell? ⟨g,2,none⟩=some (.slice none 0 0)∧w.cell? ⟨g,3,none⟩=some (.slice none 0 0)∧w.cell? ⟨g,4,none⟩=some (.slice none 0 0)∧w.frozen? ⟨g,0,none⟩=false∧w.frozen? ⟨g,1,none⟩=false∧w.frozen? ⟨g,2,none⟩=false∧w.frozen? ⟨g,3,none⟩=false∧w.frozen? ⟨g,4,none⟩=false
theorem Nil5At.of {w:World} {g:Nat} (h:Blk w g 30 nil5):Nil5At w g:=
 ⟨h.cell 0,h.cell 1,h.cell 2,h.cell 3,h.cell 4,h.frozen 0,h.frozen 1,h.frozen 2,h.frozen 3,h.frozen 4⟩
theorem Blk.new2 (w:World) (o1 o2:Obj) (t:TypeId) (cs:Array Value):Blk (((w.alloc o1).alloc o2).alloc (.cells cs t)).drew (w.heap.size+1+1) t cs:=Blk.drew (Blk.new' (by simp))
theorem CopyS.lay {w W:World} {a:KA} {k:Krn} {g:Nat} (h:CopyS w a k W) (hg:w.heap.size<g) (u0 u1 u2 u3 u4:Value):CopyS w a k (lay5 W g u0 u1 u2 u3 u4):=by
 obtain⟨h1,h2,h3,h4,h5⟩:=h;have hl:=Bz8 W g u0 u1 u2 u3 u4;have far:∀ j,(lay5 W g u0 u1 u2 u3 u4).cell? ⟨w.heap.size,j,none⟩=W.cell? ⟨w.heap.size,j,none⟩:=fun j=>World.cell?_of_block (hl.block w.heap.size (Nat.lt_of_succ_lt h5) (fun e=>by injection e with e;omega))
 exact⟨(far 1).trans h1,(far 2).trans h2,(far 3).trans h3,h4.trans ⟨hl.os,hl.tape,hl.output,hl.size,fun q hq=>hl.block q (Nat.lt_of_lt_of_le hq h4.size) (fun e=>by injection e with e;omega)⟩,Nat.lt_of_lt_of_le h5 hl.size⟩
theorem CopyS.sets {w W:World} {a:KA} {k:Krn} {g:Nat} (h:CopyS w a k W) (hg:w.heap.size<g) (u0 u1 u2 u3 u4:Value):CopyS w a k (((((W.setCell ⟨g,0,none⟩ u0).setCell ⟨g,1,none⟩ u1).setCell ⟨g,2,none⟩ u2).setCell ⟨g,3,none⟩ u3).setCell ⟨g,4,none⟩ u4):=
 h.lay hg u0 u1 u2 u3 u4
structure PreC (w:World) (a:KA) (k:Krn) (W:World):Prop where
 below:Below w.heap.size w W
 box:Blk W w.heap.size 30 (a.cells k)
 res:Blk W (w.heap.size+1) 30 nil5
theorem PreC.step {w W W':World} {a:KA} {k:Krn} (h:PreC w a k W) (hb:Below W.heap.size W W'):PreC w a k W':=
 ⟨h.below.trans (hb.mono h.below.size),h.box.below hb h.box.lt,h.res.below hb h.res.lt⟩
theorem PreC.start (w:World) (a:KA) (k:Krn):PreC w a k ((w.alloc (.cells (a.cells k) 30)).alloc (.cells nil5 30)).drew:=
 ⟨((Below.refl w.heap.size w).alloc (Nat.le_refl _) _).alloc (by simp) _ |>.drew,Blk.drew ((Blk.new w _ _).alloc _),Blk.drew (Blk.new' (by simp))⟩
theorem CopyR.startA {w0 W:World} {a:KA} {k:Krn} {V1 V2 V3:Value} (h:PreC w0 a k W) (h1:W.ownsRow w0.heap.size 3 1 V1 k.mem.length (intCells k.mem)) (h2:W.ownsRow w0.heap.size 49 4 V2 k.nodes.length (Azk k.nodes))
  (h3:W.ownsRow w0.heap.size 9 1 V3 k.pipes.length (strCells k.pipes)):
  CopyR w0 (W.alloc (.cells #[.slice none 0 0,V1,V2,V3, .slice none 0 0] 30)) a k W.heap.size (.slice none 0 0) V1 V2 V3 (.slice none 0 0) 0 0 [] []:=by
 refine⟨h.below.alloc h.below.size _,h.box.alloc _,h.res.alloc _,h.res.lt,Blk.new W _ _,?_⟩;exact⟨World.ownsRow_nil _ _ _ _,trivial,h1.alloc _,h2.alloc _,h3.alloc _,World.ownsRow_nil _ _ _ _,trivial,by simp,List.Pairwise.nil⟩
theorem Rzs {w W:World} {s n:Nat} {A:Option Addr} {xs:List Value} (h:Rd w w.heap.size s A n xs) (hb:Below w.heap.size w W):Rd W W.heap.size s A n xs:=(h.below hb).more hb.size
theorem Below.oneD (w:World) (o:Obj):Below w.drew.heap.size w.drew (w.alloc o).drew:=
 have h:=(Below.refl w.heap.size w).alloc (Nat.le_refl _) o
 ⟨h.os,h.tape,h.output,h.size,h.block⟩
theorem Below.one (w:World) (o:Obj):Below w.heap.size w (w.alloc o):=(Below.refl _ _).alloc (Nat.le_refl _) o
theorem CopyR.nextM' {w0 wr W w1:World} {a:KA} {k:Krn} {g i:Nat} {V0 V1 V2 V3 V4 V0' v u:Value} {ms:List (Value × Value)} {es:List Value} {m:Mod} (h:CopyR w0 wr a k g V0 V1 V2 V3 V4 i 0 ms es) (hi:i<k.mods.length) (hm:m=k.mods[i])
  (hW:Below wr.heap.size wr W) (hc:W.ownsRow wr.heap.size 104 4 v m.code.length (Azc m.code)) (hd:W.ownsRow wr.heap.size 3 1 u m.data.length (intCells m.data))
  (h1:w1.ownsRow w0.heap.size 47 3 V0' ((k.mods.take i).length+1) (Azy (k.mods.take i) ms++ [.string m.name,v,u])) (hg:W.grownBy w1 V0.ownBlock):
  CopyR w0 (w1.setCell ⟨g,0,none⟩ V0') a k g V0' V1 V2 V3 V4 (i+1) 0 (ms++ [(v,u)]) es:=by
 subst hm;exact h.nextM hi hW hc hd h1 hg
theorem CopyR.nextP' {w0 wr W w1:World} {a:KA} {k:Krn} {g i j:Nat} {V0 V1 V2 V3 V4 V4' x:Value} {ms:List (Value × Value)} {es:List Value} {p:Prc} (h:CopyR w0 wr a k g V0 V1 V2 V3 V4 i j ms es) (hj:j<k.procs.length) (hp:p=k.procs[j])
  (hW:Below wr.heap.size wr W) (hx:W.ownsRow wr.heap.size 54 3 x p.ends.length (Azg p.ends))
  (h1:w1.ownsRow w0.heap.size 52 2 V4' ((k.procs.take j).length+1) (Azq (k.procs.take j) es++ [.bool p.live,x])) (hg:W.grownBy w1 V4.ownBlock):
  CopyR w0 (w1.setCell ⟨g,4,none⟩ V4') a k g V0 V1 V2 V3 V4' i (j+1) ms (es++ [x]):=by
 subst hp;exact h.nextP hj hW hx h1 hg
theorem Tch.of_row {t:TypeId} {w w':World} {g:Nat} {cs:Array Value} (h:Blk w g t cs) (hg:w.grownBy w' (some g)):Tch t w w':=
 ⟨hg.os,hg.tape,hg.output,hg.size,fun q hq hne=>hg.block q hq fun e=>by injection e with e;subst e;exact hne _ _ h⟩
theorem CopyR.fin {w0 wr:World} {a:KA} {k:Krn} {g i j:Nat} {V0 V1 V2 V3 V4:Value} {ms:List (Value × Value)} {es:List Value} (h:CopyR w0 wr a k g V0 V1 V2 V3 V4 i j ms es) (hi:i=k.mods.length) (hj:j=k.procs.length) (u0 u1 u2 u3 u4:Value):
  Copied (lay5 wr (w0.heap.size+1) u0 u1 u2 u3 u4) w0.heap.size V0 V1 V2 V3 V4 k ms es∧Below w0.heap.size w0 (lay5 wr (w0.heap.size+1) u0 u1 u2 u3 u4):=by
 have hg:=Bz8 wr (w0.heap.size+1) u0 u1 u2 u3 u4;have hm:=h.made;rw[hi,hj,List.take_length,List.take_length] at hm;refine⟨hm.tch (Tch.of_row h.res hg) (by decide) (by decide) (by decide) (by decide) (by decide) (by decide) (by decide),h.below.trans ⟨hg.os,hg.tape,hg.output,hg.size,fun q hq=>hg.block q (Nat.lt_of_lt_of_le hq h.below.size) (fun e=>by injection e with e;omega)⟩⟩
def Kze (k:Krn) (w:World) (e:Ending) (w':World):Prop:=
 ∃ V0 V1 V2 V3 V4 ms es,e= .returned (.agg #[V0,V1,V2,V3,V4])∧Copied w' w.heap.size V0 V1 V2 V3 V4 k ms es∧Below w.heap.size w w'
theorem Gz1:(Tryz.prog.info? 47).map (fun i=>(i.zero,i.size,i.bytes))=some (some (.agg #[.string ⟨#[]⟩, .slice none 0 0, .slice none 0 0]),3,64):=by kernel_rfl
theorem Hzr:(Tryz.prog.info? 52).map (fun i=>(i.zero,i.size,i.bytes))=some (some (.agg #[.bool false, .slice none 0 0]),2,32):=by kernel_rfl
set_option maxRecDepth 100000 in
set_option maxHeartbeats 8000000 in
theorem Ozm (k:Krn) (a:KA) (w:World) (hk:KrnAt w w.heap.size a k):
  Calls Tryz.prog 14 #[.agg (a.cells k)] w (Kze k w):=by
 have hW:Below w.heap.size w ((w.alloc (.cells (a.cells k) 30)).alloc (.cells nil5 30)):=((Below.refl w.heap.size w).alloc (Nat.le_refl _) _).alloc (by simp) _;have HK:=Lib.hid hk;have HW:=Lib.hid hW;clear hk hW;have l1:=HK.out.l1;have l2:=HK.out.l2;have l3:=HK.out.l3;unfold KA.cells;unfold nil5 at HW;unfold KA.cells at HW;go_enter Tryz.func14,Tryz.ntmps14;go_upto_region 1 with fail
 go_cut [3] (fun u wx=>∃ g V1 V2 V3,u= .pointer (some ⟨g,0,none⟩)∧CopyR w wx a k g (.slice none 0 0) V1 V2 V3 (.slice none 0 0) 0 0 [] [])
 case first=>
  go_region_held3 (fun w'=>w'.cell? ⟨w.heap.size,1,none⟩=some (.slice a.a1 k.mem.length a.c1)∧w'.cell? ⟨w.heap.size,2,none⟩=some (.slice a.a2 k.nodes.length a.c2)∧w'.cell? ⟨w.heap.size,3,none⟩=some (.slice a.a3 k.pipes.length a.c3)∧
    Below w.heap.size w w'∧w.heap.size+1<w'.heap.size)
   (first
     | (with_reducible exact CopyS.start w a k)
     | (with_reducible refine CopyS.sets ?_ ?_ _ _ _ _ _;(with_reducible assumption);(first|(with_reducible assumption)|omega))
     | (with_reducible exact CopyS.swap (by assumption) _)
     | (go_split_ands;(first|(with_reducible refine CopyS.next (W:=_) ⟨?_,?_,?_,?_,?_⟩ hb3)|(with_reducible refine CopyS.next (W:=_) ⟨?_,?_,?_,?_,?_⟩ hb2)|(with_reducible refine CopyS.next (W:=_) ⟨?_,?_,?_,?_,?_⟩ hb1)|(with_reducible refine CopyS.next (W:=_) ⟨?_,?_,?_,?_,?_⟩ (Below.one _ _))|(with_reducible refine CopyS.next (W:=_) ⟨?_,?_,?_,?_,?_⟩ (Below.oneD _ _)))<;>assumption))
   (first
     | (go_at_call 42;refine(Gz6 a.a1 k.mem.length a.c1 (intCells k.mem) _ ?_ HK.out.n1 (Dz3 _) (Nat.le_trans l1 (by decide))).mono ?_;(go_split_ands;exact Rzs HK.out.mem.rd (by assumption));rintro e w1 ⟨A1,c1,rfl,hv1,hb1⟩;(have z1:w.heap.size<w1.heap.size:=Nat.lt_of_lt_of_le (by simp<;>omega) hb1.size);(try (have N1:Blk w1 (w.heap.size+1+1) 30 nil5:=(Blk.new2 w _ _ 30 nil5).below hb1 (Blk.new2 w _ _ 30 nil5).lt)))
     | (go_at_call 43;refine(Lzi a.a2 k.nodes.length a.c2 (Azk k.nodes) _ ?_ HK.out.n2 (Nzn _) (Nat.le_trans l2 (by decide))).mono ?_;(go_split_ands;exact Rzs HK.out.nodes.rd (by assumption));rintro e w2 ⟨A2,c2,rfl,hv2,hb2⟩;(have z2:w.heap.size<w2.heap.size:=Nat.lt_of_lt_of_le z1 (Nat.le_trans (by simp) hb2.size));(try (have N2:Blk w2 (w.heap.size+1+1) 30 nil5:=N1.below hb2 N1.lt));(try (have N2:Blk w2 w1.heap.size 30 nil5:=(Blk.new w1 30 nil5).below hb2 (Blk.new w1 30 nil5).lt)))
     | (go_at_call 44;refine(Mzl a.a3 k.pipes.length a.c3 (strCells k.pipes) _ ?_ HK.out.n3 (Oza _) (Nat.le_trans l3 (by decide))).mono ?_;(go_split_ands;exact Rzs HK.out.pipes.rd (by assumption));rintro e w3 ⟨A3,c3,rfl,hv3,hb3⟩;(first|(have N3:Blk w3 (w.heap.size+1+1) 30 nil5:=N2.below hb3 N2.lt;obtain⟨n0,n1,n2,n3,n4,n5,n6,n7,n8,n9⟩:=Nil5At.of N3)|(have N3:Blk w3 w1.heap.size 30 nil5:=N2.below hb3 N2.lt;obtain⟨n0,n1,n2,n3,n4,n5,n6,n7,n8,n9⟩:=Nil5At.of N3)|(have N3:Blk w3 w2.heap.size 30 nil5:=(Blk.new w2 30 nil5).below hb3 (Blk.new w2 30 nil5).lt;obtain⟨n0,n1,n2,n3,n4,n5,n6,n7,n8,n9⟩:=Nil5At.of N3)|skip)))
  all_goals
   go_wp2_with fail;go_meet
   first
    | (have p1:=(PreC.start w a k).step hb1
       have p2:=p1.step hb2;have p3:=p2.step hb3;exact⟨_,_,_,_,rfl,CopyR.startA p3 (own_base (own_below (own_below hv1 hb2) hb3) (PreC.start w a k).below.size) (own_base (own_below hv2 hb3) p1.below.size) (own_base hv3 p2.below.size)⟩)
    | (have p1:=(PreC.start w a k).step hb1
       have p2:=(p1.step hb2).step (Below.one w2 (.cells nil5 30));have p3:=p2.step hb3;exact⟨_,_,_,_,rfl,CopyR.start rfl p3.below p3.box p3.res (p1.step hb2).res.lt N3 (own_base (own_below (own_below (own_below hv1 hb2) (Below.one w2 (.cells nil5 30))) hb3) (PreC.start w a k).below.size) (own_base (own_below (own_below hv2 (Below.one w2 (.cells nil5 30))) hb3) p1.below.size) (own_base hv3 p2.below.size)⟩)
    | (have p1:=((PreC.start w a k).step hb1).step (Below.one w1 (.cells nil5 30))
       have p2:=p1.step hb2;have p3:=p2.step hb3;exact⟨_,_,_,_,rfl,CopyR.start rfl p3.below p3.box p3.res ((PreC.start w a k).step hb1).res.lt N3 (own_base (own_below (own_below (own_below hv1 (Below.one w1 (.cells nil5 30))) hb2) hb3) (PreC.start w a k).below.size) (own_base (own_below hv2 hb3) p1.below.size) (own_base hv3 p2.below.size)⟩)
    | (have p0:=(PreC.start w a k).step (Below.oneD _ (.cells nil5 30))
       have p1:=p0.step hb1;have p2:=p1.step hb2;have p3:=p2.step hb3;exact⟨_,_,_,_,rfl,CopyR.start rfl p3.below p3.box p3.res (Nat.lt_succ_self _) N3 (own_base (own_below (own_below hv1 hb2) hb3) p0.below.size) (own_base (own_below hv2 hb3) p1.below.size) (own_base hv3 p2.below.size)⟩)
 case rest=>
  obtain⟨g,V1,V2,V3,rfl,hC⟩:=hcut;have HC:=Lib.hid hC;obtain⟨x0, -, -, -,x4, -⟩:=hC.box.a5;simp[KA.cells] at x0 x4;have y0:=HK.out.l0;clear hC;go_wp2;obtain⟨im,him,hmz0,hmz1,hmz2⟩:=info_parts Gz1;obtain⟨ip,hip,hpz0,hpz1,hpz2⟩:=info_parts Hzr;go_loopw [21] (fun i wr=>Cnt k.mods.length i fun n=>∃ V0 ms,CopyR w wr a k g V0 V1 V2 V3 (.slice none 0 0) n 0 ms []) (fun i _=>k.mods.length - (intOf i).toNat)
  case atStart=>exact⟨0,Nat.zero_le _,rfl,_,_,HC.out⟩
  case round=>
   clear x0 x4 HC;obtain⟨n,hn,rfl,V0,ms,hC⟩:=hrel;by_cases hlt:n<k.mods.length
   ·obtain⟨b,o,e1,hb,hc⟩:=(HK.out.mods.below hC.below) (by omega)
    obtain⟨A1,c1,A2,c2,z0,z1,z2,z3⟩:=hc n hlt;clear hc;rw[e1];have hbs:b<wr.heap.size:=Nat.lt_of_lt_of_le hb hC.below.size;obtain⟨m,hm⟩:∃ m,m=k.mods[n]:=⟨_,rfl⟩;rw[←hm] at z0 z1 z2 z3;have hbox:Below wr.heap.size wr (wr.alloc (.cells #[.string m.name, .slice A1 m.code.length c1, .slice A2 m.data.length c2] 47)).drew:=(Below.one wr _).drew;have ZM:=Lib.hid (((z3.more hC.below.size).keep (fun _ hp=>hbox.cell hp)).more hbox.size);have HM:=Lib.hid hm;have HC:=Lib.hid hC;have HE:=Lib.hid e1;have g0:=hC.blk.cell 0;have g1:g<wr.heap.size:=hC.blk.lt;have hU:=Tryz.underlying24;simp at g0;clear z3 hm hC e1 hb;go_wp2_with fail;go_region_law
     (first
       | (refine step_append_lies _ (by rfl) _ _ _ (by rfl) w.heap.size 47 im _ 3 64 hU him hmz0 hmz1 hmz2 rfl (by omega) V0 (k.mods.take n).length (Azy (k.mods.take n) ms) (by rfl) ?own ⟨w1.heap.size,0,none⟩ 1 1 [.string m.name, .slice a1 m.code.length k1, .slice a2 m.data.length k2] (by rfl) (by rfl) ?new ?one (by omega) ?len ?byt ?bas (w1.heap.size+1) ?siz ?_
          case own=>exact(own_below (own_below HC.out.made.mods hbox) hb1).alloc _
          case new=>exact World.news_of_block (fr:=(0,0)) (B:=w1.heap.size) (t:=47) (cs:= #[.string m.name, .slice a1 m.code.length k1, .slice a2 m.data.length k2]) (Blk.new' rfl)
          case one=>(intro u hu;simp at hu;rcases hu with rfl|rfl|rfl<;>rfl)
          case len=>(have:=y0;simp[maxLen];omega)
          case byt=>(have:=y0;simp;omega)
          case bas=>(have:=HC.out.below.size;have:=hbox.size;have:=hb1.size;simp at*;omega)
          case siz=>simp
          intro gq cap w2 hown2 hgrow2 hat2 hlt2;have kb:Blk w2 g 30 #[V0,V1,V2,V3, .slice none 0 0]:=((((HC.out.blk.below hbox HC.out.blk.lt).below hb1 (HC.out.blk.below hbox HC.out.blk.lt).lt).alloc _).tch (Tch.of_grown ((own_below (own_below HC.out.made.mods hbox) hb1).alloc _) hgrow2) (by decide));obtain⟨k4, -,kf, -⟩:=kb.a2;simp at k4;clear kb)
       | (go_simp
          go_at_call 45;refine(Jzj m A1 A2 c1 c2 _ ZM.out.code ZM.out.data ZM.out.nil ZM.out.nil' ZM.out.cl ZM.out.dl).mono ?_;rintro e w1 ⟨v1,v2,rfl,hv1,hv2,hb1⟩;obtain⟨a1,k1,rfl⟩:=Az1 hv1;obtain⟨a2,k2,rfl⟩:=Az1 hv2;have kb1:=((HC.out.blk.below hbox HC.out.blk.lt).below hb1 (HC.out.blk.below hbox HC.out.blk.lt).lt).cell 0;have kb2:g<w1.heap.size:=((HC.out.blk.below hbox HC.out.blk.lt).below hb1 (HC.out.blk.below hbox HC.out.blk.lt).lt).lt;simp at kb1))
    all_goals
     have hN:=HC.out.nextM' hlt HM.out ((hbox.trans (hb1.mono hbox.size)).alloc (Nat.le_trans hbox.size hb1.size) _) ((own_base hv1 hbox.size).alloc _) ((own_base hv2 hbox.size).alloc _) hown2 hgrow2;rw[List.length_take,Nat.min_eq_left (Nat.le_of_lt hlt)] at hN;go_wp2;go_roundw
     case rel=>exact⟨n+1,by omega,by go_num,_,_,hN⟩
     case measure=>simp[intOf];omega
   ·obtain rfl:n=k.mods.length:=by omega
    have w4:=hC.box.cell 4;have HC:=Lib.hid hC;have l4:=HK.out.l4;simp[KA.cells] at w4;clear hC;go_wp2;go_loopw [36] (fun i wr=>Cnt k.procs.length i fun n=>∃ V4 es,CopyR w wr a k g V0 V1 V2 V3 V4 k.mods.length n ms es) (fun i _=>k.procs.length - (intOf i).toNat)
    case atStart=>exact⟨0,Nat.zero_le _,rfl,_,_,HC.out⟩
    case round=>
     clear w4 HC;obtain⟨n,hn,rfl,V4,es,hC⟩:=hrel;by_cases hlt:n<k.procs.length
     ·obtain⟨b,o,e1,hb,hc⟩:=(HK.out.procs.below hC.below) (by omega)
      obtain⟨A1,c1,z0,z1,z2⟩:=hc n hlt;clear hc;rw[e1];have hbs:b<wr.heap.size:=Nat.lt_of_lt_of_le hb hC.below.size;obtain⟨m,hm⟩:∃ m,m=k.procs[n]:=⟨_,rfl⟩;rw[←hm] at z0 z1 z2;have hbox:Below wr.heap.size wr (wr.alloc (.cells #[.bool m.live, .slice A1 m.ends.length c1] 52)).drew:=(Below.one wr _).drew;have ZM:=Lib.hid (((z2.more hC.below.size).keep (fun _ hp=>hbox.cell hp)).more hbox.size);have HM:=Lib.hid hm;have HC:=Lib.hid hC;have HE:=Lib.hid e1;have g0:=hC.blk.cell 4;have g1:g<wr.heap.size:=hC.blk.lt;have hU:=Tryz.underlying28;simp at g0;clear z2 hm hC e1 hb;go_wp2_with fail;go_region_law
       (first
         | (refine step_append_lies _ (by rfl) _ _ _ (by rfl) w.heap.size 52 ip _ 2 32 hU hip hpz0 hpz1 hpz2 rfl (by omega) V4 (k.procs.take n).length (Azq (k.procs.take n) es) (by rfl) ?own ⟨w1.heap.size,0,none⟩ 1 1 [.bool m.live, .slice a1 m.ends.length k1] (by rfl) (by rfl) ?new ?one (by omega) ?len ?byt ?bas (w1.heap.size+1) ?siz ?_
            case own=>exact(own_below (own_below HC.out.made.procs hbox) hb1).alloc _
            case new=>exact World.news_of_block (fr:=(0,0)) (B:=w1.heap.size) (t:=52) (cs:= #[.bool m.live, .slice a1 m.ends.length k1]) (Blk.new' rfl)
            case one=>(intro u hu;simp at hu;rcases hu with rfl|rfl<;>rfl)
            case len=>(have:=l4;simp[maxLen];omega)
            case byt=>(have:=l4;simp;omega)
            case bas=>(have:=HC.out.below.size;have:=hbox.size;have:=hb1.size;simp at*;omega)
            case siz=>simp
            intro gq cap w2 hown2 hgrow2 hat2 hlt2;have kb:Blk w2 g 30 #[V0,V1,V2,V3,V4]:=((((HC.out.blk.below hbox HC.out.blk.lt).below hb1 (HC.out.blk.below hbox HC.out.blk.lt).lt).alloc _).tch (Tch.of_grown ((own_below (own_below HC.out.made.procs hbox) hb1).alloc _) hgrow2) (by decide));have k4:=kb.cell 4;have kf:=kb.frozen 4;simp at k4;clear kb)
         | (go_simp
            go_at_call 46;refine(Iz9 A1 m.ends.length c1 (Azg m.ends) _ ZM.out.ends.rd ZM.out.nil (Hzm _) ZM.out.el).mono ?_;rintro e w1 ⟨a1,k1,rfl,hv1,hb1⟩;have kb1:=((HC.out.blk.below hbox HC.out.blk.lt).below hb1 (HC.out.blk.below hbox HC.out.blk.lt).lt).cell 4;have kb2:g<w1.heap.size:=((HC.out.blk.below hbox HC.out.blk.lt).below hb1 (HC.out.blk.below hbox HC.out.blk.lt).lt).lt;have kc:=Ize hb1;simp at kb1))
      all_goals
       have hN:=HC.out.nextP' hlt HM.out ((hbox.trans (hb1.mono hbox.size)).alloc (Nat.le_trans hbox.size hb1.size) _) ((own_base hv1 hbox.size).alloc _) hown2 hgrow2;rw[List.length_take,Nat.min_eq_left (Nat.le_of_lt hlt)] at hN;go_wp2;go_roundw
       case rel=>exact⟨n+1,by omega,by go_num,_,_,hN⟩
       case measure=>simp[intOf];omega
     ·have hn':n=k.procs.length:=by omega
      have HN:=Lib.hid hn';obtain⟨B0,d0,rfl⟩:=Az1 hC.made.mods;obtain⟨B1,d1,rfl⟩:=Az1 hC.made.mem;obtain⟨B2,d2,rfl⟩:=Az1 hC.made.nodes;obtain⟨B3,d3,rfl⟩:=Az1 hC.made.pipes;obtain⟨B4,d4,rfl⟩:=Az1 hC.made.procs;obtain⟨q0,q1,q2,q3,q4,f0,f1,f2,f3,f4, -⟩:=hC.res.a5;obtain⟨p0,p1,p2,p3,p4, -⟩:=hC.blk.a5;simp only[List.getElem?_toArray,List.getElem?_cons_zero,List.getElem?_cons_succ] at q0 q1 q2 q3 q4 p0 p1 p2 p3 p4;have HC:=Lib.hid hC;clear hC hn';have hF:=HC.out.fin rfl HN.out (.slice B0 k.mods.length d0) (.slice B1 k.mem.length d1) (.slice B2 k.nodes.length d2) (.slice B3 k.pipes.length d3) (.slice B4 n d4);simp only[List.length_take,Nat.min_self,Nat.min_eq_left hn] at hF;have HF:=Lib.hid hF;clear hF;go_wp2;refine bodyPost_ret (v:= .agg #[.slice B0 k.mods.length d0, .slice B1 k.mem.length d1, .slice B2 k.nodes.length d2, .slice B3 k.pipes.length d3, .slice B4 n d4]) ?_ rfl ⟨_,_,_,_,_,_,_,rfl,HF.out⟩;simp[results,Tryz.results14,go_sem,q0,q1,q2,q3,q4]
set_option linter.unusedVariables false
set_option linter.unusedSimpArgs false
theorem ModRows.base {w:World} {B B':Nat} (hB:B≤B'):∀ {l:List Mod} {ms:List (Value × Value)},ModRows w B' l ms→ModRows w B l ms
 | [],[],_=>trivial
 | _::_,_::_,h=>⟨⟨own_base h.1.1 hB,own_base h.1.2 hB⟩,ModRows.base hB h.2⟩
 | [],_::_,h=>h.elim
 | _::_,[],h=>h.elim
theorem PrcRows.base {w:World} {B B':Nat} (hB:B≤B'):∀ {l:List Prc} {es:List Value},PrcRows w B' l es→PrcRows w B l es
 | [],[],_=>trivial
 | _::_,_::_,h=>⟨own_base h.1 hB,PrcRows.base hB h.2⟩
 | [],_::_,h=>h.elim
 | _::_,[],h=>h.elim
theorem Copied.base {w:World} {B B':Nat} {V0 V1 V2 V3 V4:Value} {k:Krn} {ms:List (Value × Value)} {es:List Value} (h:Copied w B' V0 V1 V2 V3 V4 k ms es) (hB:B≤B'):Copied w B V0 V1 V2 V3 V4 k ms es:=
 ⟨own_base h.mods hB,h.rows.base hB,own_base h.mem hB,own_base h.nodes hB,own_base h.pipes hB,own_base h.procs hB,h.ends.base hB,h.apart,h.each⟩
def DoPost (w:World) (k:Krn) (x:Akt) (e:Ending) (w':World):Prop:=
 Below w.heap.size w w'∧
 ((doE k x≠0∧e= .returned (.tuple #[.agg #[.slice none 0 0, .slice none 0 0, .slice none 0 0, .slice none 0 0, .slice none 0 0], .agg #[.int .i64 0, .int .i64 0, .string ⟨#[]⟩], .int .i64 (doE k x)]))∨
  (doE k x=0∧∃ (a':KA) (ms:List (Value × Value)) (es:List Value),e= .returned (.tuple #[.agg (a'.cells (doK k x).1), .agg #[.int .i64 (doK k x).2.code, .int .i64 (doK k x).2.n, .string (doK k x).2.data], .int .i64 0])∧
    Copied w' w.heap.size (.slice a'.a0 (doK k x).1.mods.length a'.c0) (.slice a'.a1 (doK k x).1.mem.length a'.c1) (.slice a'.a2 (doK k x).1.nodes.length a'.c2) (.slice a'.a3 (doK k x).1.pipes.length a'.c3) (.slice a'.a4 (doK k x).1.procs.length a'.c4) (doK k x).1 ms es∧(doK k x).1.fits))
structure DoAt (w W:World) (a:KA) (k:Krn) (ms:List (Value × Value)) (es:List Value) (cs:Array Value) (bw bo:Nat) (u0 u1:Int) (s:ByteArray):Prop where
 ks:KS w.heap.size W w.heap.size a k ms es
 fr:Below w.heap.size w W
 ac:Blk W (w.heap.size+1) 40 cs
 rk:∃ c5,Blk W (w.heap.size+2) 30 c5∧c5.size=5
 ra:Blk W (w.heap.size+3) 36 #[.int .i64 0, .int .i64 0, .string ⟨#[]⟩]
 wk:Blk W bw 59 #[.pointer (some ⟨w.heap.size,0,none⟩)]
 ot:Blk W bo 36 #[.int .i64 u0, .int .i64 u1, .string s]
 bo3:w.heap.size+3<bo
section
variable {w W W':World} {a a':KA} {k k':Krn} {ms ms':List (Value × Value)} {es es':List Value} {cs:Array Value} {bw bo:Nat} {u0 u1 v0 v1:Int} {s t:ByteArray}
theorem DoAt.next (h:DoAt w W a k ms es cs bw bo u0 u1 s) (hk:KS w.heap.size W' w.heap.size a' k' ms' es') (hf:Fr w.heap.size W W'):DoAt w W' a' k' ms' es' cs bw bo u0 u1 s:=by
 obtain⟨c5,h1,e1⟩:=h.rk;obtain⟨c6,h2,e2⟩:=hf.shape _ c5 h1;exact⟨hk,h.fr.trans hf.low',hf.blk h.ac (by decide),⟨c6,h2,e2.trans e1⟩,hf.blk h.ra (by decide),hf.blk h.wk (by decide),hf.blk h.ot (by decide),h.bo3⟩
theorem DoAt.below (h:DoAt w W a k ms es cs bw bo u0 u1 s) (hb:Below W.heap.size W W'):DoAt w W' a k ms es cs bw bo u0 u1 s:=
 h.next (h.ks.below hb) (Fr.low hb (Nat.le_of_lt h.ks.lt))
theorem DoAt.set_ (h:DoAt w W a k ms es cs bw bo u0 u1 s) (i:Nat) (u:Value) (he:(#[.int .i64 u0, .int .i64 u1, .string s]:Array Value).setIfInBounds i u= #[.int .i64 v0, .int .i64 v1, .string t]):
  DoAt w (W.setCell ⟨bo,i,none⟩ u) a k ms es cs bw bo v0 v1 t:=by
 obtain⟨c5,h1,e1⟩:=h.rk;have ht:=Tch.of_set (p:=⟨bo,i,none⟩) h.ot u;refine⟨h.ks.ans h.ot u,h.fr.setCell (p:=⟨bo,i,none⟩) (by have:=h.bo3;show _≤bo;omega) u,h.ac.tch ht (by decide),⟨c5,h1.tch ht (by decide),e1⟩,h.ra.far (p:=⟨bo,i,none⟩) (by have:=h.bo3;show _≠bo;omega) u,h.wk.tch ht (by decide),?_,h.bo3⟩;have:=h.ot.set_ i u;rw[he] at this;exact this
theorem DoAt.start {W0 W1:World} {A0 A1 A2 A3 A4:Option Addr} {c0 c1 c2 c3 c4:Nat} {zk:Array Value} (hz:zk.size=5)
  (hW0:W0=(((w.alloc (.cells (a.cells k) 30)).alloc (.cells cs 40)).alloc (.cells zk 30)).alloc (.cells #[.int .i64 0, .int .i64 0, .string ⟨#[]⟩] 36))
  (hb:Below W0.heap.size W0 W1) (hC:Copied W1 W0.heap.size (.slice A0 k.mods.length c0) (.slice A1 k.mem.length c1) (.slice A2 k.nodes.length c2) (.slice A3 k.pipes.length c3) (.slice A4 k.procs.length c4) k ms es) (hf:k.fits):
  DoAt w ((((lay5 W1 w.heap.size (.slice A0 k.mods.length c0) (.slice A1 k.mem.length c1) (.slice A2 k.nodes.length c2) (.slice A3 k.pipes.length c3) (.slice A4 k.procs.length c4))).alloc (.cells #[.pointer (some ⟨w.heap.size,0,none⟩)] 59)).alloc (.cells #[.int .i64 0, .int .i64 0, .string ⟨#[]⟩] 36))
   ⟨A0,c0,A1,c1,A2,c2,A3,c3,A4,c4⟩ k ms es cs W1.heap.size (W1.heap.size+1) 0 0 ⟨#[]⟩:=by
 have hn:W0.heap.size=w.heap.size+4:=by rw[hW0];simp
 have hn1:=hb.size;have b0:Blk W0 w.heap.size 30 (a.cells k):=by rw[hW0];exact(((Blk.new w _ _).alloc _).alloc _).alloc _
 have b1:Blk W0 (w.heap.size+1) 40 cs:=by rw[hW0];exact((Blk.new' (by simp)).alloc _).alloc _
 have b2:Blk W0 (w.heap.size+2) 30 zk:=by rw[hW0];exact(Blk.new' (by simp)).alloc _
 have b3:Blk W0 (w.heap.size+3) 36 #[.int .i64 0, .int .i64 0, .string ⟨#[]⟩]:=by rw[hW0];exact Blk.new' (by simp)
 have hb0:Below w.heap.size w W0:=by
  rw[hW0];exact((((Below.refl w.heap.size w).alloc (Nat.le_refl _) _).alloc (by simp) _).alloc (by simp;omega) _).alloc (by simp;omega) _
 have e0:(a.cells k).size=5:=rfl;have k0:=(b0.below hb b0.lt).lay5 e0 (.slice A0 k.mods.length c0) (.slice A1 k.mem.length c1) (.slice A2 k.nodes.length c2) (.slice A3 k.pipes.length c3) (.slice A4 k.procs.length c4);obtain⟨WL,hWL⟩:∃ WL,WL=lay5 W1 w.heap.size (.slice A0 k.mods.length c0) (.slice A1 k.mem.length c1) (.slice A2 k.nodes.length c2) (.slice A3 k.pipes.length c3) (.slice A4 k.procs.length c4):=⟨_,rfl⟩;have hs:WL.heap.size=W1.heap.size:=by rw[hWL];simp[lay5]
 have hfar:∀ q,q≠w.heap.size→WL.heap[q]? =W1.heap[q]? :=fun q hq=>by rw[hWL];exact Pz9 _ _ _ _ _ _ _ q hq
 have hbl:Below w.heap.size w WL:=by rw[hWL];exact Fz3 (hb0.trans (hb.mono (by omega))) _ _ _ _ _
 have ht:Tch 30 W1 WL:=by
  have g:=Bz8 W1 w.heap.size (.slice A0 k.mods.length c0) (.slice A1 k.mem.length c1) (.slice A2 k.nodes.length c2) (.slice A3 k.pipes.length c3) (.slice A4 k.procs.length c4);rw[←hWL] at g;exact⟨g.os,g.tape,g.output,g.size,fun q hq hne=>g.block q hq fun e=>by
   injection e with e
   subst e;exact hne _ _ (b0.below hb b0.lt)⟩
 rw[←hWL] at k0 ⊢;have C1:=(hC.tch ht (by decide) (by decide) (by decide) (by decide) (by decide) (by decide) (by decide)).base (B:=w.heap.size) (by omega);have f2:=(Below.refl WL.heap.size WL).alloc (Nat.le_refl _) (.cells #[.pointer (some ⟨w.heap.size,0,none⟩)] 59);have f3:=f2.alloc f2.size (.cells #[.int .i64 0, .int .i64 0, .string ⟨#[]⟩] 36);have bL1:=(b1.below hb b1.lt).tch ht (by decide);have bL2:Blk WL (w.heap.size+2) 30 zk:=(hfar _ (by omega)).trans (b2.below hb b2.lt);have bL3:=(b3.below hb b3.lt).tch ht (by decide);have KSL:KS w.heap.size WL w.heap.size ⟨A0,c0,A1,c1,A2,c2,A3,c3,A4,c4⟩ k ms es:=⟨Nat.le_refl _,k0,C1,hf⟩;refine⟨KSL.below f3,hbl.trans (f3.mono (by omega)),bL1.below f3 bL1.lt,⟨zk,bL2.below f3 bL2.lt,hz⟩,bL3.below f3 bL3.lt,?_,?_,by omega⟩
 ·rw[←hs]
  exact(Blk.new WL _ _).alloc _
 ·rw[←hs]
  exact Blk.new' (by simp)
end
end Go.Proofs.YtdjamdbamkhblacGreatDoor
