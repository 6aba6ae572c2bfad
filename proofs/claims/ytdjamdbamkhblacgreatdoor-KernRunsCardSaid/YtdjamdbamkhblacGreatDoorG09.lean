/- The walks of the kernel's tidy and of the reference's tidied: what nobody has open, and nobody can open, is gone. No condition. The kernel's by: what its walks share. No condition. By an AI agent (xby.py). -/
import Derived.Test.YtdjamdbamkhblacGreatDoorG08
namespace Go.Proofs.YtdjamdbamkhblacGreatDoor
open Go.RowKit
set_option linter.unusedVariables false
set_option linter.unusedSimpArgs false
def Bzq {α:Type} (f:Nat→α→α) (l:List α) (n:Nat):List α:=(mapI f l 0).take n++l.drop n
section
variable {α:Type} {f:Nat→α→α} {l:List α} {n:Nat}
theorem Gz5:Bzq f l 0=l:=by simp[Bzq]
theorem Iz4 (h:l.length≤n):Bzq f l n=mapI f l 0:=by
 unfold Bzq;rw[List.take_of_length_le (by rw[Bzh];exact h),List.drop_of_length_le h,List.append_nil]
theorem Cz2:(Bzq f l n).length=l.length:=by
 unfold Bzq;rw[List.length_append,List.length_take,List.length_drop,Bzh];omega
theorem Ozb (i:Nat):(Bzq f l n)[i]? =if i<n then l[i]?.map (f i) else l[i]? :=by
 unfold Bzq;have hm:=Kz0 f l 0 i;rw[Nat.zero_add] at hm;have hml:=Bzh f l 0;by_cases hi:i<n
 ·rw[if_pos hi]
  by_cases hl:i<l.length
  ·rw[List.getElem?_append_left (by rw[List.length_take];omega),List.getElem?_take,if_pos hi,hm]
  ·rw[List.getElem?_eq_none (by rw[List.length_append,List.length_take,List.length_drop];omega),List.getElem?_eq_none (by omega)]
   rfl
 ·rw[if_neg hi]
  by_cases hl:n≤l.length
  ·rw[List.getElem?_append_right (by rw[List.length_take];omega),List.length_take,List.getElem?_drop]
   congr 1
   omega
  ·rw[List.getElem?_eq_none (by rw[List.length_append,List.length_take,List.length_drop];omega),List.getElem?_eq_none (by omega)]
theorem Gzn (h:n<l.length) (h':n<(Bzq f l n).length):(Bzq f l n)[n]=l[n]:=by
 have:=Ozb (f:=f) (l:=l) (n:=n) n;rw[if_neg (by omega),List.getElem?_eq_getElem h',List.getElem?_eq_getElem h] at this;injection this
theorem Ezr (h:n<l.length):(Bzq f l n).set n (f n l[n])=Bzq f l (n+1):=by
 apply List.ext_getElem?;intro i;rw[List.getElem?_set,Ozb,Ozb,Cz2];by_cases hi:n=i
 ·subst hi
  rw[if_pos rfl,if_pos h,if_pos (by omega),List.getElem?_eq_getElem h];rfl
 ·rw[if_neg hi]
  by_cases h1:i<n
  ·rw[if_pos h1,if_pos (by omega)]
  ·rw[if_neg h1,if_neg (by omega)]
theorem Gz4 (h:n<l.length) (he:f n l[n]=l[n]):Bzq f l n=Bzq f l (n+1):=by
 rw[←Ezr h,he];apply List.ext_getElem?;intro i;rw[List.getElem?_set];by_cases hi:n=i
 ·subst hi
  have h':n<(Bzq f l n).length:=by rw[Cz2];exact h
  rw[if_pos rfl,if_pos h',List.getElem?_eq_getElem h',Gzn h]
 ·rw[if_neg hi]
end
section
variable {B g:Nat} {a:KA} {k:Krn} {ms:List (Value × Value)} {es:List Value}
set_option maxRecDepth 100000 in
set_option maxHeartbeats 4000000 in
theorem Iz5 (w:World) (h:KS B w g a k ms es) (l2:k.nodes.length=8) (l3:k.pipes.length=6) (l4:k.procs.length=4):
  Calls Tryz.prog 18 #[.agg #[.pointer (some ⟨g,0,none⟩)]] w fun e w'=>e= .returned (.tuple #[])∧KS B w' g a (Czx k) ms es∧Fr B w w':=by
 obtain⟨b2,ha2,hbb2,hlt2⟩:=Azf h.cp.nodes (by omega);obtain⟨b3,ha3,hbb3,hlt3⟩:=Azf h.cp.pipes (by omega);have hb1:=Az6 w (.cells #[.pointer (some ⟨g,0,none⟩)] 59);have H1:=Lib.hid (h.below hb1);have HX:=Lib.hid (Blk.new w 59 #[.pointer (some ⟨g,0,none⟩)]);have HB:=Lib.hid (Fr.low hb1 (Nat.le_of_lt h.lt));have HA2:=Lib.hid ha2;have HA3:=Lib.hid ha3;obtain⟨c0,c1,c2,c3,c4⟩:=H1.out.c5;rw[l2,ha2] at c2;have hg:=H1.out.blk.lt;obtain⟨hx0, -, -, -,hxl⟩:=HX.out.a2;simp at hx0;have hBw:=Lib.hid h.lt;clear h hb1 ha2 ha3 c0 c1 c3 c4;go_enter Tryz.func18,Tryz.ntmps18;go_wp2_with fail;generalize w.alloc (.cells #[.pointer (some ⟨g,0,none⟩)] 59)=W0 at*;go_loopw [11] (fun i wr=>Cnt 8 i fun n=>KS B wr g a { k with nodes:=Bzq (Bzk k.procs) k.nodes n } ms es∧Fr B w wr∧Blk wr w.heap.size 59 #[.pointer (some ⟨g,0,none⟩)]) (fun i _=>8 - (intOf i).toNat)
 case atStart=>exact⟨0,Nat.zero_le _,rfl,by rw[Gz5];exact H1.out,HB.out,HX.out⟩
 case round=>
  clear c2 hx0;obtain⟨n,hn,rfl,hK,hBe,hX⟩:=hrel;by_cases hlt:n<8
  ·have hlt':n<k.nodes.length:=by omega
   have hltT:n<(Bzq (Bzk k.procs) k.nodes n).length:=by rw[Cz2];exact hlt'
   obtain⟨b',o',e1,hbB',hcell⟩:=hK.krn.nodes (by show 0<(Bzq _ _ _).length;omega);obtain⟨rfl,rfl⟩:b2=b'∧0=o':=by
    have:=HA2.out.symm.trans e1;injection this with this
    injection this with e3 e4
    exact⟨e3,e4⟩
   obtain⟨z0,z1,z2,z3⟩:=hcell n hltT;have hgt:=Gzn (f:=Bzk k.procs) hlt' hltT;obtain⟨x,hx⟩:∃ x,x=k.nodes[n]:=⟨_,rfl⟩;simp only[hgt, ←hx] at z0 z1 z2 z3;simp only[Nat.zero_add] at z0 z1 z2 z3;have hb1:=Az6 wr (.cells #[.string x.name, .int .i64 x.kind, .string x.data, .int .i64 x.unit] 49);have hK1:=hK.below hb1;have hX1:=hX.below hb1 hX.lt;have hM1:=Blk.new wr 49 #[.string x.name, .int .i64 x.kind, .string x.data, .int .i64 x.unit];have hB1:=hBe.trans (Fr.low hb1 (Nat.le_of_lt hK.lt));have hS1:=Lib.hid (Ezr (f:=Bzk k.procs) hlt');have hS2:=Lib.hid (Gz4 (f:=Bzk k.procs) hlt');rw[←hx] at hS1 hS2;have hn8:(n:Int)<8:=by omega
   clear hK hBe hX hcell e1 hgt hx hb1;obtain⟨c0,c1,c2,c3,c4⟩:=hK1.c5;simp only[Cz2] at c2;rw[l2,HA2.out] at c2;rw[l4] at c4;rw[l3] at c3;have HH:=Lib.hid (Dzz (.slice a.a0 k.mods.length a.c0) (.slice a.a1 k.mem.length a.c1) (.slice (some ⟨b2,0,none⟩) 8 a.c2) (.slice a.a3 k.pipes.length a.c3) a.a4 a.c4 k.procs 1 (n:Int) _ hK1.krn.procs (by rw[l4];unfold maxLen;omega));rw[l4,l3] at HH;obtain⟨hx0, -, -, -,hxl⟩:=hX1.a2;have hg1:=hK1.blk.lt;simp at hx0;have HK1:=Lib.hid hK1;have HX1:=Lib.hid hX1;have HB1:=Lib.hid hB1;have hz2:b2<wr.heap.size:=hbB';clear hK1 hX1 hB1 hM1;cases hem:empS x.name with
   | false=>
     have hl0:x.name.toList≠ []:=by rw[Bz5] at hem;simpa using hem
     have hl1:(!x.name.toList.isEmpty)=true:=by simpa using hl0
     have hl2:x.name.toList.isEmpty=false:=by simpa using hl0
     have HE:=Lib.hid (hS2.out (by unfold Bzk;rw[hem];rfl));clear hem;rw[HE.out] at HK1;go_wp2;go_roundw
     case rel=>exact⟨n+1,by omega,by go_num,HK1.out,HB1.out,HX1.out⟩
     case measure=>simp[intOf];omega
   | true=>
     have hl0:x.name.toList=[]:=by rw[Bz5] at hem;simpa using hem
     cases hh:hasE k.procs 1 (n:Int) with
     | true=>
       have HE:=Lib.hid (hS2.out (by unfold Bzk;rw[hem,hh];rfl));rw[hh] at HH;clear hem hh;rw[HE.out] at HK1;go_wp2_with fail;refine HH.out.mono ?_;rintro e w1 ⟨rfl,hb1⟩;have hK2:=HK1.out.below hb1;have hX2:=HX1.out.below hb1 HX1.out.lt;have hB2:=HB1.out.trans (Fr.low hb1 (Nat.le_of_lt HK1.out.lt));go_wp2;go_roundw
       case rel=>exact⟨n+1,by omega,by go_num,hK2,hB2,hX2⟩
       case measure=>simp[intOf];omega
     | false=>
       have hS:=hS1.out;have hdf:Bzk k.procs n x=default:=by unfold Bzk;rw[hem,hh];rfl
       rw[hdf] at hS;rw[hh] at HH;clear hem hh hdf;have HS:=Lib.hid hS;clear hS;go_wp2_with fail;refine HH.out.mono ?_;rintro e w1 ⟨rfl,hb1⟩;have hK2:=HK1.out.below hb1;have hX2:=HX1.out.below hb1 HX1.out.lt;have hB2:=HB1.out.trans (Fr.low hb1 (Nat.le_of_lt HK1.out.lt));obtain⟨d0,d1,d2,d3,d4⟩:=hK2.c5;simp only[Cz2] at d2;rw[l2,HA2.out] at d2;obtain⟨hx2, -, -, -,hxl2⟩:=hX2.a2;have hg2:=hK2.blk.lt;simp at hx2;have hfr:∀ o,w1.frozen? ⟨b2,o,none⟩=false:=fun o=>by
        have:=hK2.cp.nodes;simp only at this;rw[HA2.out] at this;exact this.frozenAt o
       have f0:=hfr (n*4);have f1:=hfr (n*4+1);have f2:=hfr (n*4+2);have f3:=hfr (n*4+3);have HK2:=Lib.hid hK2;have HX2:=Lib.hid hX2;have HB2:=Lib.hid hB2;have hb12:Below wr.heap.size wr w1:=(Az6 wr _).trans (hb1.mono (by simp));have y0:=(hb12.cell (p:=⟨b2,_,none⟩) hz2).trans z0;have y1:=(hb12.cell (p:=⟨b2,_,none⟩) hz2).trans z1;have y2:=(hb12.cell (p:=⟨b2,_,none⟩) hz2).trans z2;have y3:=(hb12.cell (p:=⟨b2,_,none⟩) hz2).trans z3;have hz3:b2<w1.heap.size:=Nat.lt_of_lt_of_le hz2 hb12.size;clear hK2 hX2 hB2 hb1 hfr c0 c1 c2 c3 c4 hb12 z0 z1 z2 z3;go_wp2;go_roundw
       case rel=>
        have hlk:n<({ k with nodes:=Bzq (Bzk k.procs) k.nodes n }:Krn).nodes.length:=hltT;have hfin:=HK2.out.nodeAll HA2.out hlk default;have hkk:setNod { k with nodes:=Bzq (Bzk k.procs) k.nodes n } n default= { k with nodes:=Bzq (Bzk k.procs) k.nodes (n+1) }:=by unfold setNod;rw[HS.out]
        rw[hkk] at hfin;have hne:w.heap.size≠b2:=by omega
        exact⟨n+1,by omega,by go_num,hfin.1,HB2.out.trans hfin.2,(((HX2.out.far (p:=⟨b2,n*4,none⟩) hne _).far (p:=⟨b2,n*4+1,none⟩) hne _).far (p:=⟨b2,n*4+2,none⟩) hne _).far (p:=⟨b2,n*4+3,none⟩) hne _⟩
       case measure=>simp[intOf];omega
  ·obtain rfl:n=8:=by omega
   rw[Iz4 (by omega)] at hK;obtain⟨c0,c1,c2,c3,c4⟩:=hK.c5;rw[l3,HA3.out] at c3;obtain⟨hx0, -, -, -,hxl2⟩:=hX.a2;have hg2:=hK.blk.lt;simp at hx0;have HK0:=Lib.hid hK;have HB0:=Lib.hid hBe;have HX0:=Lib.hid hX;clear hK hBe hX hlt hn c0 c1 c2 c4 H1 HX HB hxl hg;go_wp2;clear c3 hx0 hxl2 hg2;go_loopw [43] (fun i wr=>Cnt 6 i fun n=>KS B wr g a { k with nodes:=mapI (Bzk k.procs) k.nodes 0,pipes:=Bzq (Czk k.procs) k.pipes n } ms es∧Fr B w wr∧Blk wr w.heap.size 59 #[.pointer (some ⟨g,0,none⟩)]) (fun i _=>6 - (intOf i).toNat)
   case atStart=>exact⟨0,Nat.zero_le _,rfl,by rw[Gz5];exact HK0.out,HB0.out,HX0.out⟩
   case round=>
    clear HK0 HB0 HX0;obtain⟨n,hn,rfl,hK,hBe,hX⟩:=hrel;by_cases hlt:n<6
    ·have hlt':n<k.pipes.length:=by omega
     have hltT:n<(Bzq (Czk k.procs) k.pipes n).length:=by rw[Cz2];exact hlt'
     obtain⟨b',o',e1,hbB',hcell⟩:=hK.krn.pipes (by show 0<(Bzq _ _ _).length;omega);obtain⟨rfl,rfl⟩:b3=b'∧0=o':=by
      have:=HA3.out.symm.trans e1;injection this with this
      injection this with e3 e4
      exact⟨e3,e4⟩
     have z0:=hcell n hltT;have hgt:=Gzn (f:=Czk k.procs) hlt' hltT;obtain⟨x,hx⟩:∃ x,x=k.pipes[n]:=⟨_,rfl⟩;simp only[hgt, ←hx,Nat.zero_add] at z0;have hS1:=Lib.hid (Ezr (f:=Czk k.procs) hlt');have hS2:=Lib.hid (Gz4 (f:=Czk k.procs) hlt');rw[←hx] at hS1 hS2;have hn8:(n:Int)<6:=by omega
     obtain⟨c0,c1,c2,c3,c4⟩:=hK.c5;simp only[Cz2,Bzh] at c2 c3;rw[l2] at c2;rw[l3,HA3.out] at c3;rw[l4] at c4;have HH:=Lib.hid (Dzz (.slice a.a0 k.mods.length a.c0) (.slice a.a1 k.mem.length a.c1) (.slice a.a2 8 a.c2) (.slice (some ⟨b3,0,none⟩) 6 a.c3) a.a4 a.c4 k.procs 2 (n:Int) _ hK.krn.procs (by rw[l4];unfold maxLen;omega));rw[l4] at HH;obtain⟨hx0, -, -, -,hxl⟩:=hX.a2;have hg1:=hK.blk.lt;simp at hx0;have HK1:=Lib.hid hK;have HX1:=Lib.hid hX;have HB1:=Lib.hid hBe;clear hK hX hBe hcell e1 hgt hx;cases hh:hasE k.procs 2 (n:Int) with
     | true=>
       have HE:=Lib.hid (hS2.out (by unfold Czk;rw[hh];rfl));rw[hh] at HH;clear hh;rw[HE.out] at HK1;go_wp2_with fail;refine HH.out.mono ?_;rintro e w1 ⟨rfl,hb1⟩;have hK2:=HK1.out.below hb1;have hX2:=HX1.out.below hb1 HX1.out.lt;have hB2:=HB1.out.trans (Fr.low hb1 (Nat.le_of_lt HK1.out.lt));go_wp2;go_roundw
       case rel=>first|exact⟨n+1,by omega,by go_num,hK2,hB2,hX2⟩|((repeat apply Exists.intro);exact⟨⟨n+1,by omega,by go_num,hK2,hB2,hX2⟩,rfl⟩)
       case measure=>simp[intOf];omega
     | false=>
       have hS:=hS1.out;have hdf:Czk k.procs n x=noS:=by unfold Czk;rw[hh];rfl
       rw[hdf] at hS;rw[hh] at HH;clear hh hdf;have HS:=Lib.hid hS;clear hS;go_wp2_with fail;refine HH.out.mono ?_;rintro e w1 ⟨rfl,hb1⟩;have hK2:=HK1.out.below hb1;have hX2:=HX1.out.below hb1 HX1.out.lt;have hB2:=HB1.out.trans (Fr.low hb1 (Nat.le_of_lt HK1.out.lt));obtain⟨d0,d1,d2,d3,d4⟩:=hK2.c5;simp only[Cz2] at d3;rw[l3,HA3.out] at d3;obtain⟨hx2, -, -, -,hxl2⟩:=hX2.a2;have hg2:=hK2.blk.lt;simp at hx2;have f0:w1.frozen? ⟨b3,n,none⟩=false:=by
        have:=hK2.cp.pipes;simp only at this;rw[HA3.out] at this;exact this.frozenAt n
       have y0:=(hb1.cell (p:=⟨b3,_,none⟩) hbB').trans z0;have hz3:b3<w1.heap.size:=Nat.lt_of_lt_of_le hbB' hb1.size;have HK2:=Lib.hid hK2;have HX2:=Lib.hid hX2;have HB2:=Lib.hid hB2;clear hK2 hX2 hB2 hb1 c0 c1 c2 c3 c4 z0;go_wp2;go_roundw
       case rel=>
        have hfin:=HK2.out.pipeCell (i:=n) HA3.out noS;have hkk:({ k with nodes:=mapI (Bzk k.procs) k.nodes 0,pipes:=(Bzq (Czk k.procs) k.pipes n).set n noS }:Krn)= { k with nodes:=mapI (Bzk k.procs) k.nodes 0,pipes:=Bzq (Czk k.procs) k.pipes (n+1) }:=by rw[HS.out]
        simp only at hfin;rw[hkk] at hfin;have hne:w.heap.size≠b3:=by omega
        first|exact⟨n+1,by omega,by go_num,hfin.1,HB2.out.trans hfin.2,HX2.out.far (p:=⟨b3,n,none⟩) hne _⟩|((repeat apply Exists.intro);exact⟨⟨n+1,by omega,by go_num,hfin.1,HB2.out.trans hfin.2,HX2.out.far (p:=⟨b3,n,none⟩) hne _⟩,rfl⟩)
       case measure=>simp[intOf];omega
    ·obtain rfl:n=6:=by omega
     rw[Iz4 (by omega)] at hK;have HK:=Lib.hid hK;have HB:=Lib.hid hBe;clear hK hBe hX;go_wp2;go_end0;exact⟨rfl,HK.out,HB.out⟩
end
attribute [local go_sem] After.cell
def Cz1 (B:Nat) (w:World) (g:Nat) (ms:List (Value × Value)) (r:Krn × Ans) (e:Ending) (w':World):Prop:=
 e= .returned (.agg #[.int .i64 r.2.code, .int .i64 r.2.n, .string r.2.data])∧Fr B w w'∧∃ a' es',KS B w' g a' r.1 ms es'
structure ByAt (B:Nat) (w W:World) (g:Nat) (a:KA) (k:Krn) (ms:List (Value × Value)) (es:List Value) (cs:Array Value):Prop where
 ks:KS B W g a k ms es
 fr:Fr B w W
 lt:B≤w.heap.size
 wk:Blk W w.heap.size 59 #[.pointer (some ⟨g,0,none⟩)]
 ac:Blk W (w.heap.size+1) 40 cs
 rs:Blk W (w.heap.size+2) 36 #[.int .i64 0, .int .i64 0, .string ⟨#[]⟩]
 ot:Blk W (w.heap.size+3) 36 #[.int .i64 0, .int .i64 0, .string ⟨#[]⟩]
section
variable {B g b4 p:Nat} {a:KA} {k:Krn} {ms:List (Value × Value)} {es:List Value} {w W W':World} {cs:Array Value}
theorem ByAt.start (h:KS B w g a k ms es) (cs:Array Value):ByAt B w ((((w.alloc (.cells #[.pointer (some ⟨g,0,none⟩)] 59)).alloc (.cells cs 40)).alloc (.cells #[.int .i64 0, .int .i64 0, .string ⟨#[]⟩] 36)).alloc (.cells #[.int .i64 0, .int .i64 0, .string ⟨#[]⟩] 36)) g a k ms es cs:=by
 have hb1:=Az6 w (.cells #[.pointer (some ⟨g,0,none⟩)] 59);have hb2:=hb1.alloc hb1.size (.cells cs 40);have hb3:=hb2.alloc hb2.size (.cells #[.int .i64 0, .int .i64 0, .string ⟨#[]⟩] 36);have hb4:=hb3.alloc hb3.size (.cells #[.int .i64 0, .int .i64 0, .string ⟨#[]⟩] 36);exact⟨h.below hb4,Fr.low hb4 (Nat.le_of_lt h.lt),Nat.le_of_lt h.lt,(((Blk.new w _ _).alloc _).alloc _).alloc _,((Blk.new' (by simp)).alloc _).alloc _,(Blk.new' (by simp)).alloc _,Blk.new' (by simp)⟩
theorem ByAt.below (h:ByAt B w W g a k ms es cs) (hb:Below W.heap.size W W'):ByAt B w W' g a k ms es cs:=
 ⟨h.ks.below hb,h.fr.trans (Fr.low hb (Nat.le_of_lt h.ks.lt)),h.lt,h.wk.below hb h.wk.lt,h.ac.below hb h.ac.lt,h.rs.below hb h.rs.lt,h.ot.below hb h.ot.lt⟩
theorem ByAt.next {a':KA} {k':Krn} {es':List Value} (h:ByAt B w W g a k ms es cs) (hk:KS B W' g a' k' ms es') (hf:Fr B W W'):ByAt B w W' g a' k' ms es' cs:=
 ⟨hk,h.fr.trans hf,h.lt,hf.blk h.wk (by decide),hf.blk h.ac (by decide),hf.blk h.rs (by decide),hf.blk h.ot (by decide)⟩
theorem KS.rdE {be c i:Nat} (h:KS B W g a k ms es) (hp:p<k.procs.length) (hp':p<es.length) (he:es[p]= .slice (some ⟨be,0,none⟩) k.procs[p].ends.length c):RdE W W.heap.size (some ⟨be,0,none⟩) k.procs[p].ends:=by
 have ho:=h.cp.ends.at_ p hp hp';rw[he] at ho;exact RdE.of (Rd.of_own ho)
theorem KS.opnB {be c i:Nat} (h:KS B W g a k ms es) (hp:p<k.procs.length) (hp':p<es.length) (he:es[p]= .slice (some ⟨be,0,none⟩) k.procs[p].ends.length c) (hi:i<k.procs[p].ends.length):
  be<W.heap.size∧W.cell? ⟨be,i*3,none⟩=some (.int .i64 k.procs[p].ends[i].kind)∧W.cell? ⟨be,i*3+1,none⟩=some (.int .i64 k.procs[p].ends[i].node)∧W.cell? ⟨be,i*3+2,none⟩=some (.int .i64 k.procs[p].ends[i].pos):=by
 have ho:=h.cp.ends.at_ p hp hp';rw[he] at ho;obtain⟨b,hb,_,hlt⟩:=Azf ho (by omega);cases hb
 have hr:=Rd.of_own ho;obtain⟨b,o,hb,_,hc⟩:=hr.2 (by omega);cases hb
 obtain⟨e0,e1,e2⟩:=Dz9 k.procs[p].ends i hi;have c0:=hc _ _ e0;have c1:=hc _ _ e1;have c2:=hc _ _ e2;rw[Nat.zero_add] at c0 c1 c2;exact⟨hlt,c0,c1,c2⟩
theorem KS.rdF {be c:Nat} (h:KS B W g a k ms es) (hp:p<k.procs.length) (hp':p<es.length) (he:es[p]= .slice (some ⟨be,0,none⟩) k.procs[p].ends.length c) (i:Nat):W.frozen? ⟨be,i,none⟩=false:=by
 have ho:=h.cp.ends.at_ p hp hp';rw[he] at ho;exact ho.frozenAt i
theorem KS.place_ {be c:Nat} (h:KS B W g a k ms es) (hp:p<k.procs.length) (hp':p<es.length) (ha4:a.a4=some ⟨b4,0,none⟩) (hes:es[p]= .slice (some ⟨be,0,none⟩) k.procs[p].ends.length c) (hel:k.procs[p].ends.length=6):
  b4<W.heap.size∧W.cell? ⟨b4,p*2+1,none⟩=some (.slice (some ⟨be,0,none⟩) 6 c)∧
  Calls Tryz.prog 52 #[.pointer (some ⟨b4,p*2,none⟩)] W fun e w'=>e= .returned (.int .i64 (Bzc k.procs[p].ends))∧Below W.heap.size W w':=by
 obtain⟨b5,be',c',_,e5,_,hl5,hes',_,_,_,_,z1'⟩:=h.prcAt hp (by omega);obtain rfl:b4=b5:=by rw[ha4] at e5;injection e5 with e5;injection e5
 rw[hes] at hes';have e6:(some ⟨be,0,none⟩:Option Addr)=some ⟨be',0,none⟩∧c=c':=by injection hes' with q1 q2 q3;exact⟨q1,q3⟩
 rw[hel, ←e6.1, ←e6.2] at z1';exact⟨hl5,z1',Jz0 b4 (p*2) (some ⟨be,0,none⟩) c k.procs[p].ends W hl5 (by rw[hel];exact z1') (KS.rdE (i:=0) h hp hp' hes) hel⟩
theorem Dzk (w:World) (h:KS B w g a k ms es) (hk:KOk k) (hp:p<4) (ha4:a.a4=some ⟨b4,0,none⟩):
  ∃ (hpl:p<k.procs.length) (be c:Nat) (hp':p<es.length),k.procs[p].ends.length=6∧Hid (k.procs.getD p default=k.procs[p])∧Hid (KOk k)∧Hid (es[p]= .slice (some ⟨be,0,none⟩) k.procs[p].ends.length c)∧
   Hid (∀ W:World,KS B W g a k ms es→b4<W.heap.size∧W.cell? ⟨b4,p*2+1,none⟩=some (.slice (some ⟨be,0,none⟩) 6 c))∧
   Hid (∀ W:World,KS B W g a k ms es→Calls Tryz.prog 52 #[.pointer (some ⟨b4,p*2,none⟩)] W fun e w'=>e= .returned (.int .i64 (Bzc k.procs[p].ends))∧Below W.heap.size W w')∧Hid (B≤w.heap.size)∧Hid (a.a4=some ⟨b4,0,none⟩):=by
 have hpl:p<k.procs.length:=by rw[hk.l4];exact hp
 have hel:k.procs[p].ends.length=6:=by have:=Bzb hk hp;rw[Az3 hpl] at this;exact this
 obtain⟨b4',be,c,hp',e4,hbb4,hlt4,hes,hbe,hlte,hce,z0,z1⟩:=h.prcAt hpl (by omega);obtain rfl:b4=b4':=by rw[ha4] at e4;injection e4 with e4;injection e4
 have HUN:Hid (k.procs.getD p default=k.procs[p]):=Az3 hpl;have HKO:=Lib.hid hk;have HES:=Lib.hid hes;have HPL:Hid (∀ W:World,KS B W g a k ms es→b4<W.heap.size∧W.cell? ⟨b4,p*2+1,none⟩=some (.slice (some ⟨be,0,none⟩) 6 c)):=fun W hW=>by
  obtain⟨b5,be',c',_,e5,_,hl5,hes',_,_,_,_,z1'⟩:=hW.prcAt hpl (by omega);obtain rfl:b4=b5:=by rw[ha4] at e5;injection e5 with e5;injection e5
  rw[hes] at hes';have e6:(some ⟨be,0,none⟩:Option Addr)=some ⟨be',0,none⟩∧c=c':=by injection hes' with q1 q2 q3;exact⟨q1,q3⟩
  rw[hel, ←e6.1, ←e6.2] at z1';exact⟨hl5,z1'⟩
 have HPLC:Hid (∀ W:World,KS B W g a k ms es→Calls Tryz.prog 52 #[.pointer (some ⟨b4,p*2,none⟩)] W fun e w'=>e= .returned (.int .i64 (Bzc k.procs[p].ends))∧Below W.heap.size W w'):=fun W hW=>by
  obtain⟨q1,q2⟩:=HPL.out W hW;exact Jz0 b4 (p*2) (some ⟨be,0,none⟩) c k.procs[p].ends W q1 (by rw[hel];exact q2) (KS.rdE (i:=0) hW hpl hp' hes) hel
 exact⟨hpl,be,c,hp',hel,HUN,HKO,HES,HPL,HPLC,Nat.le_of_lt h.lt,ha4⟩
def pipP (k:Krn) (i:Nat):Bool:= !hasE k.procs 2 i && !hasE k.procs 3 i
def pipF (k:Krn) (j:Nat):Int:=idxF (pipP k) ([0,1,2,3,4,5].take j) 0
theorem Izq {α:Type} (q:α→Bool):∀ (l:List α) (x:α) (n:Nat),idxF q (l++ [x]) n=if 0≤idxF q l n then idxF q l n else if q x=true then ((n+l.length:Nat):Int) else -1
 | [],x,n=>by
   cases h:q x<;>simp[idxF,h]
 | y::r,x,n=>by
   rw[List.cons_append,idxF,idxF];cases h:q y with
   | true=>first|(simp;done)|(simp;omega)
   | false=>
     have:=Izq q r x (n+1);simp only[Bool.false_eq_true,if_false];rw[this];have e:n+1+r.length=n+(y::r).length:=by simp;omega
     rw[e]
theorem Dzq {k:Krn} {j:Nat} (hj:j<6):pipF k (j+1)=if 0≤pipF k j then pipF k j else if pipP k j=true then (j:Int) else -1:=by
 have e:([0,1,2,3,4,5]:List Nat).take (j+1)=([0,1,2,3,4,5]:List Nat).take j++ [j]∧(([0,1,2,3,4,5]:List Nat).take j).length=j:=by
  match j,hj with
  | 0,_=>exact⟨rfl,rfl⟩
  | 1,_=>exact⟨rfl,rfl⟩
  | 2,_=>exact⟨rfl,rfl⟩
  | 3,_=>exact⟨rfl,rfl⟩
  | 4,_=>exact⟨rfl,rfl⟩
  | 5,_=>exact⟨rfl,rfl⟩
 unfold pipF;rw[e.1,Izq,e.2,Nat.zero_add]
theorem Kzw {α:Type} (q:α→Bool):∀ (l:List α) (n:Nat), -1≤idxF q l n
 | [],n=>by simp[idxF]
 | y::r,n=>by
   rw[idxF];split
   ·omega
   ·exact Kzw q r (n+1)
theorem Pzj {k:Krn} {j:Nat} (h:pipF k j<0):pipF k j= -1:=by
 have:=Kzw (pipP k) ([0,1,2,3,4,5].take j) 0;unfold pipF at h ⊢;omega
theorem Hzy (k:Krn):pipF k 6=Bzd k:=rfl
theorem Pz1 {k:Krn} (h:KOk k) {i:Nat} (hp:p<4) (hpl:p<k.procs.length) (hi:i<k.procs[p].ends.length) (h0:k.procs[p].ends[i].kind=0):k.procs[p].ends[i]=default:=by
 have:=Cz6 h (p:=p) (i:=i) hp;rw[Az3 hpl,Az3 hi] at this;obtain⟨x,hx⟩:∃ x,x=k.procs[p].ends[i]:=⟨_,rfl⟩;rw[←hx] at h0 this ⊢;clear hx;unfold endOk at this;rw[if_pos h0] at this;obtain⟨x0,x1,x2⟩:=x;simp at h0 this;obtain⟨h1,h2⟩:=this;subst h0 h1 h2;rfl
theorem Kz7 {k:Krn} {i:Nat} (hpl:p<k.procs.length) (hi:i<k.procs[p].ends.length) (y:Opn) (he:k.procs[p].ends[i]=default):setEnd (setEnd k p i y) p i default=k:=by
 rw[Fzc hpl,Czs hpl, ←he,List.set_getElem_self];have:(⟨k.procs[p].live,k.procs[p].ends⟩:Prc)=k.procs[p]:=rfl;rw[this,List.set_getElem_self]
def Qz3:Array Value:=madeCells #[.int .i64 0, .int .i64 0, .int .i64 0] 18
theorem Nzh (w:World):(Instr.makeSlice 50 (.int .i64 6) (.int .i64 6)).run Tryz.prog w= .ok (.slice (some ⟨w.heap.size,0,none⟩) 6 6) (w.alloc (.cells Qz3 54)):=Hz1 w 50 54 _ 3 24 6 Tryz.underlying50 Ezf (by omega) (by omega)
theorem Lz8 (w:World):(w.alloc (.cells Qz3 54)).ownsRow w.heap.size 54 3 (.slice (some ⟨w.heap.size,0,none⟩) 6 6) 6 (Azg (List.replicate 6 default)):=
 ⟨rfl, .inr ⟨_,6,_,rfl,Nat.le_refl _,Blk.new w _ _,Nat.le_refl _,by decide,by kernel_rfl,by kernel_rfl⟩⟩
structure ByEnd (B:Nat) (w W:World) (g:Nat) (a:KA) (k:Krn) (ms:List (Value × Value)) (es:List Value) (u0 u1:Int) (s:ByteArray):Prop where
 ks:KS B W g a k ms es
 fr:Fr B w W
 lt:B≤w.heap.size
 rs:Blk W (w.heap.size+2) 36 #[.int .i64 0, .int .i64 0, .string ⟨#[]⟩]
 ot:Blk W (w.heap.size+3) 36 #[.int .i64 u0, .int .i64 u1, .string s]
theorem ByAt.nothing (h:ByAt B w W g a k ms es cs):ByEnd B w W g a k ms es 0 0 noS:=⟨h.ks,h.fr,h.lt,h.rs,h.ot⟩
theorem ByEnd.set_ {u0 u1 v0 v1:Int} {s t:ByteArray} (h:ByEnd B w W g a k ms es u0 u1 s) (i:Nat) (u:Value) (he:(#[.int .i64 u0, .int .i64 u1, .string s]:Array Value).setIfInBounds i u= #[.int .i64 v0, .int .i64 v1, .string t]):
  ByEnd B w (W.setCell ⟨w.heap.size+3,i,none⟩ u) g a k ms es v0 v1 t:=
 ⟨h.ks.ans h.ot u,h.fr.setNew (q:=w.heap.size+3) (by omega) (by have:=h.lt;omega) u,h.lt,h.rs.far (p:=⟨w.heap.size+3,i,none⟩) (by simp) u,by have:=h.ot.set_ i u;rw[he] at this;exact this⟩
theorem ByAt.code (h:ByAt B w W g a k ms es cs) (u:Int):ByEnd B w (W.setCell ⟨w.heap.size+3,0,none⟩ (.int .i64 u)) g a k ms es u 0 noS:=h.nothing.set_ 0 _ rfl
theorem ByAt.num (h:ByAt B w W g a k ms es cs) (u:Int):ByEnd B w (W.setCell ⟨w.heap.size+3,1,none⟩ (.int .i64 u)) g a k ms es 0 u noS:=h.nothing.set_ 1 _ rfl
theorem ByEnd.fin {u0 u1:Int} {s:ByteArray} (h:ByEnd B w W g a k ms es u0 u1 s) (r:Krn × Ans) (hr:r=(k,⟨u0,u1,s⟩)):
  Cz1 B w g ms r (.returned (.agg #[.int .i64 u0, .int .i64 u1, .string s])) (((W.setCell ⟨w.heap.size+2,0,none⟩ (.int .i64 u0)).setCell ⟨w.heap.size+2,1,none⟩ (.int .i64 u1)).setCell ⟨w.heap.size+2,2,none⟩ (.string s)):=by
 subst hr;exact⟨rfl,h.fr.ans3 (Nat.le_add_right _ 2) h.lt _ _ _,_,_,(h.ks.ans3 h.rs (by have:=h.lt;omega) _ _ _).1⟩
end
end Go.Proofs.YtdjamdbamkhblacGreatDoor
