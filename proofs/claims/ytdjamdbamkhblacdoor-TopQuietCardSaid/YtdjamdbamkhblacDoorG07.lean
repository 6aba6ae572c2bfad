/- The walk of safe.Make: the code that it makes. Condition: the listed table. The walk of the reference's allWords. What K.Mem and K.Code make of raw things, and what the top laws make of code: plain mathematics. The walk of K.Mem: words of raw things, as plain data. No condition. -/
import Derived.Test.YtdjamdbamkhblacDoorG06
set_option maxHeartbeats 8000000
set_option maxRecDepth 100000
namespace Go.Proofs.YtdjamdbamkhblacDoor
open Go.RowKit
def Fzc (l:List Ins):List Ins × Int:=
 if check l=0 then (if Ezb l then (if 200<(madeOf l).length then ([],1) else (madeOf l,0)) else ([],10)) else ([],check l)
def MadePost (w:World) (r:List Ins × Int) (e:Ending) (w':World):Prop:=
 ∃ V,e= .returned (.tuple #[V, .int .i64 r.2])∧w'.ownsRow w.heap.size 65 4 V r.1.length (Az1 r.1)∧Below w.heap.size w w'
theorem MadePost.no {w w':World} {r:List Ins × Int} {n:Int} {e:Ending} (hr:r=([],n)) (he:e= .returned (.tuple #[.slice none 0 0, .int .i64 n])) (hb:Below w.heap.size w w'):MadePost w r e w':=by
 subst hr;exact⟨_,he,World.ownsRow_nil _ _ _ _,hb⟩
theorem MadePost.yes {w w':World} {r:List Ins × Int} {l:List Ins} {V:Value} {e:Ending} (hr:r=(l,0)) (he:e= .returned (.tuple #[V, .int .i64 0])) (ho:w'.ownsRow w.heap.size 65 4 V l.length (Az1 l)) (hb:Below w.heap.size w w'):MadePost w r e w':=by
 subst hr;exact⟨_,he,ho,hb⟩
theorem Jzw (l:List Ins) (k:Nat):Bz7 l k≤3*k:=by
 unfold Bz7;have h1:=List.countP_le_length (p:=ldB) (l:=l.take k);have h2:(l.take k).length≤k:=by rw[List.length_take];omega
 omega
theorem Lzm {l:List Ins} (h1:check l=0) (h2:Ezb l=true):PlainOk l∧0<l.length:=by
 simp only[Ezb,Bool.and_eq_true,Bool.not_eq_true',List.any_eq_false] at h2;obtain⟨h3,h4⟩:=h2;obtain⟨hp,hl⟩:=(Dzh l).1 h3;refine⟨⟨Bz4 h1,fun k hk e=>?_,fun k hk=>by simpa using h4 _ (List.getElem_mem hk)⟩,hp⟩;obtain rfl:k=l.length - 1:=by omega
 exact hl
theorem Nz8:(Tryd.prog.info? 3).map (fun i=>(i.zero,i.size,i.bytes))=some (some (.int .i64 0),1,8):=by kernel_rfl
theorem Nz7:(Tryd.prog.info? 65).map (fun i=>(i.zero,i.size,i.bytes))=some (some (.agg #[.int .i64 0, .int .i64 0, .int .i64 0, .int .i64 0]),4,32):=by kernel_rfl
structure Plc (w0 wr:World) (l:List Ins) (g k:Nat) (cs:Array Value):Prop where
 below:Below w0.heap.size w0 wr
 lo:w0.heap.size≤g
 blk:Blk wr g 3 cs
 size:cs.size=l.length
 known:∀ j,j<k→cs[j]? =some (.int .i64 (Bz7 l j:Nat))
theorem Plc.next {w0 wr:World} {l:List Ins} {g k:Nat} {cs:Array Value} (h:Plc w0 wr l g k cs) (hk:k<l.length) (o:Obj):
  Plc w0 ((wr.setCell ⟨g,k,none⟩ (.int .i64 (Bz7 l k:Nat))).alloc o) l g (k+1) (cs.setIfInBounds k (.int .i64 (Bz7 l k:Nat))):=by
 have hs:=h.below.setCell (p:=⟨g,k,none⟩) h.lo (.int .i64 (Bz7 l k:Nat));refine⟨hs.alloc hs.size o,h.lo,(h.blk.set_ k _).alloc o,by simp[h.size],fun j hj=>?_⟩;rw[Array.getElem?_setIfInBounds];by_cases e:k=j
 ·subst e
  simp[h.size,hk]
 ·rw[if_neg e]
  exact h.known j (by omega)
structure Mk2 (w0 wx:World) (l:List Ins) (g:Nat) (cs:Array Value) (k:Nat) (V:Value):Prop where
 below:Below w0.heap.size w0 wx
 blk:Blk wx g 3 cs
 own:wx.ownsRow w0.heap.size 65 4 V ((l.take k).flatMap (mkI l)).length (Az1 ((l.take k).flatMap (mkI l)))
theorem Fzb (a b:List Ins):Az1 (a++b)=Az1 a++Az1 b:=by simp[Az1]
theorem Mk2.next {w0 wx w':World} {l:List Ins} {g k n':Nat} {cs:Array Value} {V V':Value} {x:Ins} {ys:List Ins} (_h:Mk2 w0 wx l g cs k V) (hk:k<l.length) (hx:l[k]=x) (hy:mkI l x=ys) (hb:Below w0.heap.size w0 w') (hblk:Blk w' g 3 cs)
  (ho:w'.ownsRow w0.heap.size 65 4 V' n' (Az1 ((l.take k).flatMap (mkI l))++Az1 ys)) (hn:n'=((l.take k).flatMap (mkI l)).length+ys.length):Mk2 w0 w' l g cs (k+1) V':=by
 refine⟨hb,hblk,?_⟩;have e:(l.take (k+1)).flatMap (mkI l)=(l.take k).flatMap (mkI l)++ys:=by
  rw[List.take_succ_eq_append_getElem hk,List.flatMap_append,List.flatMap_cons,List.flatMap_nil,List.append_nil,hx,hy]
 rw[e,List.length_append,Fzb, ←hn];exact ho
theorem Mk2.one {w0 wx w1:World} {l:List Ins} {g k n':Nat} {cs:Array Value} {V V':Value} {x y:Ins} {o1 o2:Obj} (h:Mk2 w0 wx l g cs k V) (hk:k<l.length) (hx:l[k]=x) (hy:mkI l x=[y])
  (ho:w1.ownsRow w0.heap.size 65 4 V' n' (Az1 ((l.take k).flatMap (mkI l))++Az1 [y])) (hn:n'=((l.take k).flatMap (mkI l)).length+1) (hg:((wx.alloc o1).alloc o2).grownBy w1 V.ownBlock):Mk2 w0 w1 l g cs (k+1) V':=by
 have hown:=(h.own.alloc o1).alloc o2;have b1:=h.below.alloc h.below.size o1;have b2:=b1.alloc b1.size o2;exact h.next hk hx hy (b2.grown hg b2.size (fun q hq=>(hown.lt q hq).1)) (((h.blk.alloc o1).alloc o2).tch (Tch.of_grown hown hg) (by decide)) ho hn
theorem Mk2.three {w0 wx w3 w4:World} {l:List Ins} {g k n3 n4:Nat} {cs:Array Value} {V V3 V4 u:Value} {x y1 y2 y3:Ins} {o1 o2 o3:Obj} (h:Mk2 w0 wx l g cs k V) (hk:k<l.length) (hx:l[k]=x) (hy:mkI l x=[y1,y2,y3])
  (ho3:w3.ownsRow w0.heap.size 65 4 V3 n3 (Az1 ((l.take k).flatMap (mkI l))++Az1 [y1,y2])) (hg3:((wx.alloc o1).alloc o2).grownBy w3 V.ownBlock) (hne:V3.ownBlock≠some wx.heap.size)
  (ho4:w4.ownsRow w0.heap.size 65 4 V4 n4 (Az1 ((l.take k).flatMap (mkI l))++Az1 [y1,y2]++Az1 [y3])) (hn4:n4=((l.take k).flatMap (mkI l)).length+3) (hg4:((w3.setCell ⟨wx.heap.size,2,none⟩ u).alloc o3).grownBy w4 V3.ownBlock):Mk2 w0 w4 l g cs (k+1) V4:=by
 have hown:=(h.own.alloc o1).alloc o2;have b1:=h.below.alloc h.below.size o1;have b2:=b1.alloc b1.size o2;have b3:=b2.grown hg3 b2.size (fun q hq=>(hown.lt q hq).1);have b4:=b3.setCell (p:=⟨wx.heap.size,2,none⟩) h.below.size u;have b5:=b4.alloc b4.size o3;have ho3':=(ho3.kept (Azm w3 ⟨wx.heap.size,2,none⟩ u) (.inr hne)).alloc o3;have k3:=((h.blk.alloc o1).alloc o2).tch (Tch.of_grown hown hg3) (by decide);have k5:=(k3.far (p:=⟨wx.heap.size,2,none⟩) (Nat.ne_of_lt h.blk.lt) u).alloc o3;refine h.next hk hx hy (b5.grown hg4 b5.size (fun q hq=>(ho3'.lt q hq).1)) (k5.tch (Tch.of_grown ho3' hg4) (by decide)) ?_ hn4;rw[List.append_assoc, ←Fzb] at ho4;exact ho4
theorem Dzj {w:World} {base:Nat} {e:TypeId} {size n:Nat} {v:Value} {xs:List Value} (h:w.ownsRow base e size v n xs):some w.heap.size≠v.ownBlock:=fun e=>by
 have:=(h.lt w.heap.size e.symm).2;omega
theorem Izp (l:List Ins) (k:Nat) (hk:k≤l.length):((l.take k).flatMap (mkI l)).length≤3*k:=by
 rw[Czk hk];exact Jzw l k
theorem Ozf (A:Option Addr) (c:Nat) (l:List Ins) (w:World) (hr:RdI w w.heap.size A l) (ht:Tab w) (hl:l.length≤maxLen):
  Calls Tryd.prog 70 #[.slice A l.length c] w (MadePost w (Fzc l)):=by
 have HL:=Lib.hid hl;unfold maxLen at hl;by_cases hc0:check l=0
 ·have HC:=Lib.hid hc0
  have h200:l.length≤200:=((Azo l).1 hc0).1;clear hc0;cases hpl:Ezb l with
  | false=>
    have HP:=Lib.hid hpl;clear hpl;go_enter Tryd.func70,Tryd.ntmps70;go_wp2_with fail;refine(Bzc A c l w hr ht HL.out).mono ?_;rw[HC.out];rintro e w1 ⟨rfl,hb1⟩;go_wp2_with fail;refine(Hzq A c l w1 ((hr.below hb1).more hb1.size) HL.out).mono ?_;rw[HP.out];rintro e w2 ⟨rfl,hb2⟩;go_wp2;go_ret2;exact MadePost.no (n:=10) (by rw[Fzc,if_pos HC.out,HP.out];rfl) rfl (hb1.trans (hb2.mono hb1.size))
  | true=>
    obtain⟨hok,hpos⟩:=Lzm HC.out hpl;have HP:=Lib.hid hpl;have HO:=Lib.hid hok;clear hpl hok;have hmk:∀ w:World,(Instr.makeSlice 31 (.int .i64 (l.length:Int)) (.int .i64 (l.length:Int))).run Tryd.prog w= .ok (.slice (some ⟨w.heap.size,0,none⟩) l.length l.length) (w.alloc (.cells (madeCells #[.int .i64 0] (l.length*1)) 3)):=
     fun w=>Ez7 w 31 3 _ 1 8 l.length Tryd.underlying31 Nz8 (by omega) (by omega)
    go_enter Tryd.func70,Tryd.ntmps70;go_wp2_with fail;refine(Bzc A c l w hr ht HL.out).mono ?_;rw[HC.out];rintro e w1 ⟨rfl,hb1⟩;go_wp2_with fail;refine(Hzq A c l w1 ((hr.below hb1).more hb1.size) HL.out).mono ?_;rw[HP.out];rintro e w2 ⟨rfl,hb2⟩;have hb12:=hb1.trans (hb2.mono hb1.size);go_wp2;go_loopw [6,25] (fun n i wr=>Cnt l.length i fun k=>n= .int .i64 (Bz7 l k:Nat)∧∃ cs,Plc w wr l w2.heap.size k cs) (fun _ i _=>l.length - (intOf i).toNat)
    case atStart=>exact⟨0,Nat.zero_le _,rfl,rfl,_,hb12.alloc hb12.size _,hb12.size,Blk.new w2 _ _,by rw[size_madeCells],fun j hj=>by omega⟩
    case round=>
     obtain⟨k,hk,rfl,rfl,cs,hP⟩:=hrel;have hak:=Jzw l k;by_cases hlt:k<l.length
     ·obtain⟨b,o,rfl,hbB,hcell⟩:=hr hpos
      obtain⟨d0,d1,d2,d3⟩:=hcell k hlt;rw[←hP.below.cell (p:=⟨b,_,none⟩) hbB] at d0 d1 d2 d3;have hbs:=Nat.lt_of_lt_of_le hbB hP.below.size;have g0:=hP.blk.cell k;have hks:k<cs.size:=by rw[hP.size];exact hlt
      rw[Array.getElem?_eq_getElem hks] at g0;have g1:=hP.blk.frozen k;have g2:=hP.blk.lt;have hN:=Lib.hid (hP.next hlt);have HA:=Lib.hid (Ezr hlt);have HLd:Hid (ldB l[k]=(l[k].op == 8 || l[k].op == 9)):=rfl;clear hcell hP;generalize l[k]=x at*;obtain⟨xo,xa,xb,xc⟩:=x;simp only at d0 d1 d2 d3 HLd;go_wp2
      all_goals
       go_roundw
       case rel=>
        refine⟨k+1,by omega,by go_num,?_,_,hN.out _⟩;rw[HA.out,HLd.out]
        first
         | (have h9:xo=9:=by simp_all
            simp[h9]
            done)
         | (simp[*]
            try omega)
       case measure=>simp[intOf];omega
     ·obtain rfl:k=l.length:=by omega
      have HM:=Lib.hid (Cz6 l);by_cases h2:200<Bz7 l l.length
      ·have h3:(200:Int)<(Bz7 l l.length:Int):=by omega
       go_wp2;go_ret2;exact MadePost.no (n:=1) (by rw[Fzc,if_pos HC.out,HP.out,HM.out,if_pos rfl,if_pos h2]) rfl hP.below
      ·have h3:(Bz7 l l.length:Int)≤200:=by omega
       have HQ:=Lib.hid hP;have HR:Hid (Fzc l=(madeOf l,0)):=by show _=_;rw[Fzc,if_pos HC.out,HP.out,HM.out,if_pos rfl,if_neg h2]
       clear hP;go_wp2;obtain⟨wo,rfl⟩:∃ wo:World,wo=wr:=⟨_,rfl⟩;have hU:=Tryd.underlying56;obtain⟨i0,hi0,hz0,hz1,hz2⟩:=info_parts Nz7;go_loopw [9,51] (fun v i wx=>Cnt l.length i fun k=>Mk2 w wx l w2.heap.size cs k v) (fun _ i _=>l.length - (intOf i).toNat)
       case atStart=>exact⟨0,Nat.zero_le _,rfl,HQ.out.below,HQ.out.blk,World.ownsRow_nil _ _ _ _⟩
       case round=>
        obtain⟨k,hk,rfl,hM⟩:=hrel;by_cases hlt:k<l.length
        ·obtain⟨b,o,rfl,hbB,hcell⟩:=hr hpos
         obtain⟨d0,d1,d2,d3⟩:=hcell k hlt;rw[←hM.below.cell (p:=⟨b,_,none⟩) hbB] at d0 d1 d2 d3;have hbs:=Nat.lt_of_lt_of_le hbB hM.below.size;have hfl:=Izp l k hk;have hO:=hM.own;obtain⟨nf,hnf⟩:∃ nf,nf=((l.take k).flatMap (mkI l)).length:=⟨_,rfl⟩;rw[←hnf] at hfl hO;have HNF:=Lib.hid hnf;have HOW:=Lib.hid hO;clear hnf hO;have HM2:=Lib.hid hM;have hin:=HO.out.code _ (List.getElem_mem hlt);obtain⟨x,hx⟩:∃ x,l[k]=x:=⟨_,rfl⟩;rw[hx] at d0 d1 d2 d3 hin;have hun:=Czj (HO.out.each k hlt);rw[hx] at hun;have HX:=Lib.hid hx;have HIN:=Lib.hid hin;have HUN:=Lib.hid hun;clear hx hM hcell hin hun;obtain⟨xo,xa,xb,xc⟩:=x;simp only at d0 d1 d2 d3;by_cases hj:xo=10∨xo=11∨xo=12
         ·have hcc:=HUN.out.2.2.2 hj
          have hc0:=HIN.out.c0;simp only at hcc hc0;obtain⟨ci,rfl⟩:∃ ci:Nat,xc=(ci:Int):=⟨xc.toNat,by omega⟩;have hci:ci<l.length:=by omega
          have q0:wr.cell? ⟨w2.heap.size,ci,none⟩=some (.int .i64 (Bz7 l ci:Nat)):=(HM2.out.blk.cell ci).trans (HQ.out.known ci hci);have q1:w2.heap.size<wr.heap.size:=HM2.out.blk.lt;have HY:Hid (mkI l ⟨xo,xa,xb,(ci:Int)⟩=[⟨xo,xa,xb,(Bz7 l ci:Nat)⟩]):=by
           show _=_;unfold mkI;rw[if_neg (by simp[ldB];omega),if_pos (by simp[jmpB];omega)];simp
          clear hcc hc0;rcases hj with rfl|rfl|rfl
          ·go_wp2_with (first
            | (at_builtin
               refine wpList_append_lies _ rfl (.tmp 78) (.tmp 80) _ rfl w.heap.size 65 i0 _ 4 32 hU hi0 hz0 hz1 hz2 rfl (by omega) _ nf (Az1 ((l.take k).flatMap (mkI l))) rfl ?_ ⟨wr.heap.size+1,0,none⟩ 1 1 (Az1 [⟨10,xa,xb,(Bz7 l ci:Nat)⟩]) rfl rfl ?_ (Azh _) (by omega) ?_ ?_ ?_ (wr.heap.size+1+1) ?_ ?_
               ·exact(HOW.out.alloc _).alloc _
               ·exact World.news_of_block (fr:=(0,0)) (B:=wr.heap.size+1) (t:=65) (cs:= #[.int .i64 10, .int .i64 xa, .int .i64 xb, .int .i64 (Bz7 l ci:Nat)]) (Blk.new' (by simp))
               ·(unfold maxLen;omega)
               ·omega
               ·(have:=HM2.out.below.size;simp;omega)
               ·simp
               intro g3 cap3 w3 hown3 hgrow3 hat3 hlt3))
           have hN:=HM2.out.one hlt HX.out HY.out hown3 (by rw[HNF.out]) hgrow3;go_wp2;go_roundw
           case rel=>exact⟨k+1,by omega,by go_num,hN⟩
           case measure=>simp[intOf];omega
          ·go_wp2_with (first
            | (at_builtin
               refine wpList_append_lies _ rfl (.tmp 78) (.tmp 80) _ rfl w.heap.size 65 i0 _ 4 32 hU hi0 hz0 hz1 hz2 rfl (by omega) _ nf (Az1 ((l.take k).flatMap (mkI l))) rfl ?_ ⟨wr.heap.size+1,0,none⟩ 1 1 (Az1 [⟨11,xa,xb,(Bz7 l ci:Nat)⟩]) rfl rfl ?_ (Azh _) (by omega) ?_ ?_ ?_ (wr.heap.size+1+1) ?_ ?_
               ·exact(HOW.out.alloc _).alloc _
               ·exact World.news_of_block (fr:=(0,0)) (B:=wr.heap.size+1) (t:=65) (cs:= #[.int .i64 11, .int .i64 xa, .int .i64 xb, .int .i64 (Bz7 l ci:Nat)]) (Blk.new' (by simp))
               ·(unfold maxLen;omega)
               ·omega
               ·(have:=HM2.out.below.size;simp;omega)
               ·simp
               intro g3 cap3 w3 hown3 hgrow3 hat3 hlt3))
           have hN:=HM2.out.one hlt HX.out HY.out hown3 (by rw[HNF.out]) hgrow3;go_wp2;go_roundw
           case rel=>exact⟨k+1,by omega,by go_num,hN⟩
           case measure=>simp[intOf];omega
          ·go_wp2_with (first
            | (at_builtin
               refine wpList_append_lies _ rfl (.tmp 78) (.tmp 80) _ rfl w.heap.size 65 i0 _ 4 32 hU hi0 hz0 hz1 hz2 rfl (by omega) _ nf (Az1 ((l.take k).flatMap (mkI l))) rfl ?_ ⟨wr.heap.size+1,0,none⟩ 1 1 (Az1 [⟨12,xa,xb,(Bz7 l ci:Nat)⟩]) rfl rfl ?_ (Azh _) (by omega) ?_ ?_ ?_ (wr.heap.size+1+1) ?_ ?_
               ·exact(HOW.out.alloc _).alloc _
               ·exact World.news_of_block (fr:=(0,0)) (B:=wr.heap.size+1) (t:=65) (cs:= #[.int .i64 12, .int .i64 xa, .int .i64 xb, .int .i64 (Bz7 l ci:Nat)]) (Blk.new' (by simp))
               ·(unfold maxLen;omega)
               ·omega
               ·(have:=HM2.out.below.size;simp;omega)
               ·simp
               intro g3 cap3 w3 hown3 hgrow3 hat3 hlt3))
           have hN:=HM2.out.one hlt HX.out HY.out hown3 (by rw[HNF.out]) hgrow3;go_wp2;go_roundw
           case rel=>exact⟨k+1,by omega,by go_num,hN⟩
           case measure=>simp[intOf];omega
         by_cases hd:xo=8∨xo=9
         ·clear hj
          rcases hd with rfl|rfl
          ·have HY:Hid (mkI l ⟨8,xa,xb,xc⟩=[⟨4,4,xb,6⟩,⟨5,4,4,5⟩,⟨8,xa,4,xc⟩]):=rfl
           go_wp2_with (first
            | (at_builtin
               refine wpList_append_lies _ rfl (.tmp 60) (.tmp 65) _ rfl w.heap.size 65 i0 _ 4 32 hU hi0 hz0 hz1 hz2 rfl (by omega) _ nf (Az1 ((l.take k).flatMap (mkI l))) rfl ?_ ⟨wr.heap.size+1,0,none⟩ 2 2 (Az1 [⟨4,4,xb,6⟩,⟨5,4,4,5⟩]) rfl rfl ?_ (Azh _) (by omega) ?_ ?_ ?_ (wr.heap.size+1+1) ?_ ?_
               ·exact(HOW.out.alloc _).alloc _
               ·exact World.news_of_block (fr:=(0,0)) (B:=wr.heap.size+1) (t:=65) (cs:= #[.int .i64 4, .int .i64 4, .int .i64 xb, .int .i64 6, .int .i64 5, .int .i64 4, .int .i64 4, .int .i64 5]) (Blk.new' (by simp))
               ·(unfold maxLen;omega)
               ·omega
               ·(have:=HM2.out.below.size;simp;omega)
               ·simp
               intro g3 cap3 w3 hown3 hgrow3 hat3 hlt3;have kb:Blk w3 wr.heap.size 65 #[.int .i64 8, .int .i64 xa, .int .i64 xb, .int .i64 xc]:=((Blk.new wr _ _).alloc _).grown hgrow3 (Dzj HOW.out);obtain⟨kb0,kb1,kb2,kb3, -, -,kf2, -,klt⟩:=kb.a4;have hne:Value.ownBlock (.slice (some ⟨g3,0,none⟩) (nf+2) cap3)≠some wr.heap.size:=by
                intro e;have e':g3=wr.heap.size:=by simpa [Value.ownBlock] using e
                rcases hat3 with h5|h5
                ·rw[e'] at h5
                 exact Dzj HOW.out h5.symm
                ·omega
               have hlo3:w.heap.size≤w3.heap.size:=by have:=(hown3.lt g3 rfl).1;omega
               simp at kb0 kb1 kb2 kb3;clear kb)
            | (at_builtin
               refine wpList_append_lies _ rfl (.tmp 78) (.tmp 80) _ rfl w.heap.size 65 i0 _ 4 32 hU hi0 hz0 hz1 hz2 rfl (by omega) (.slice (some ⟨g3,0,none⟩) (nf+2) cap3) (nf+2) (Az1 ((l.take k).flatMap (mkI l))++Az1 [⟨4,4,xb,6⟩,⟨5,4,4,5⟩]) rfl ?_ ⟨w3.heap.size,0,none⟩ 1 1 (Az1 [⟨8,xa,4,xc⟩]) rfl rfl ?_ (Azh _) (by omega) ?_ ?_ ?_ (w3.heap.size+1) ?_ ?_
               ·exact(hown3.kept (Azm w3 ⟨wr.heap.size,2,none⟩ (.int .i64 4)) (.inr hne)).alloc _
               ·exact World.news_of_block (fr:=(0,0)) (B:=w3.heap.size) (t:=65) (cs:= #[.int .i64 8, .int .i64 xa, .int .i64 4, .int .i64 xc]) (Blk.new' (by simp))
               ·(unfold maxLen;omega)
               ·omega
               ·(simp;omega)
               ·simp
               intro g4 cap4 w4 hown4 hgrow4 hat4 hlt4))
           have hN:=HM2.out.three hlt HX.out HY.out hown3 hgrow3 hne hown4 (by rw[HNF.out]) hgrow4;go_wp2;go_roundw
           case rel=>exact⟨k+1,by omega,by go_num,hN⟩
           case measure=>simp[intOf];omega
          ·have HY:Hid (mkI l ⟨9,xa,xb,xc⟩=[⟨4,4,xb,6⟩,⟨5,4,4,5⟩,⟨9,xa,4,xc⟩]):=rfl
           go_wp2_with (first
            | (at_builtin
               refine wpList_append_lies _ rfl (.tmp 60) (.tmp 65) _ rfl w.heap.size 65 i0 _ 4 32 hU hi0 hz0 hz1 hz2 rfl (by omega) _ nf (Az1 ((l.take k).flatMap (mkI l))) rfl ?_ ⟨wr.heap.size+1,0,none⟩ 2 2 (Az1 [⟨4,4,xb,6⟩,⟨5,4,4,5⟩]) rfl rfl ?_ (Azh _) (by omega) ?_ ?_ ?_ (wr.heap.size+1+1) ?_ ?_
               ·exact(HOW.out.alloc _).alloc _
               ·exact World.news_of_block (fr:=(0,0)) (B:=wr.heap.size+1) (t:=65) (cs:= #[.int .i64 4, .int .i64 4, .int .i64 xb, .int .i64 6, .int .i64 5, .int .i64 4, .int .i64 4, .int .i64 5]) (Blk.new' (by simp))
               ·(unfold maxLen;omega)
               ·omega
               ·(have:=HM2.out.below.size;simp;omega)
               ·simp
               intro g3 cap3 w3 hown3 hgrow3 hat3 hlt3;have kb:Blk w3 wr.heap.size 65 #[.int .i64 9, .int .i64 xa, .int .i64 xb, .int .i64 xc]:=((Blk.new wr _ _).alloc _).grown hgrow3 (Dzj HOW.out);obtain⟨kb0,kb1,kb2,kb3, -, -,kf2, -,klt⟩:=kb.a4;have hne:Value.ownBlock (.slice (some ⟨g3,0,none⟩) (nf+2) cap3)≠some wr.heap.size:=by
                intro e;have e':g3=wr.heap.size:=by simpa [Value.ownBlock] using e
                rcases hat3 with h5|h5
                ·rw[e'] at h5
                 exact Dzj HOW.out h5.symm
                ·omega
               have hlo3:w.heap.size≤w3.heap.size:=by have:=(hown3.lt g3 rfl).1;omega
               simp at kb0 kb1 kb2 kb3;clear kb)
            | (at_builtin
               refine wpList_append_lies _ rfl (.tmp 78) (.tmp 80) _ rfl w.heap.size 65 i0 _ 4 32 hU hi0 hz0 hz1 hz2 rfl (by omega) (.slice (some ⟨g3,0,none⟩) (nf+2) cap3) (nf+2) (Az1 ((l.take k).flatMap (mkI l))++Az1 [⟨4,4,xb,6⟩,⟨5,4,4,5⟩]) rfl ?_ ⟨w3.heap.size,0,none⟩ 1 1 (Az1 [⟨9,xa,4,xc⟩]) rfl rfl ?_ (Azh _) (by omega) ?_ ?_ ?_ (w3.heap.size+1) ?_ ?_
               ·exact(hown3.kept (Azm w3 ⟨wr.heap.size,2,none⟩ (.int .i64 4)) (.inr hne)).alloc _
               ·exact World.news_of_block (fr:=(0,0)) (B:=w3.heap.size) (t:=65) (cs:= #[.int .i64 9, .int .i64 xa, .int .i64 4, .int .i64 xc]) (Blk.new' (by simp))
               ·(unfold maxLen;omega)
               ·omega
               ·(simp;omega)
               ·simp
               intro g4 cap4 w4 hown4 hgrow4 hat4 hlt4))
           have hN:=HM2.out.three hlt HX.out HY.out hown3 hgrow3 hne hown4 (by rw[HNF.out]) hgrow4;go_wp2;go_roundw
           case rel=>exact⟨k+1,by omega,by go_num,hN⟩
           case measure=>simp[intOf];omega
         have n8:¬ xo=8:=by omega
         have n9:¬ xo=9:=by omega
         have n10:¬ xo=10:=by omega
         have n11:¬ xo=11:=by omega
         have n12:¬ xo=12:=by omega
         have HY:Hid (mkI l ⟨xo,xa,xb,xc⟩=[⟨xo,xa,xb,xc⟩]):=by show _=_;unfold mkI;rw[if_neg (by simp[ldB,n8,n9]),if_neg (by simp[jmpB,n10,n11,n12])]
         clear hj hd;go_wp2_with (first
          | (at_builtin
             refine wpList_append_lies _ rfl (.tmp 78) (.tmp 80) _ rfl w.heap.size 65 i0 _ 4 32 hU hi0 hz0 hz1 hz2 rfl (by omega) _ nf (Az1 ((l.take k).flatMap (mkI l))) rfl ?own ⟨wr.heap.size+1,0,none⟩ 1 1 (Az1 [⟨xo,xa,xb,xc⟩]) rfl rfl ?new ?one (by omega) ?len ?byt ?bas (wr.heap.size+1+1) ?siz ?_
             case own=>exact(HOW.out.alloc _).alloc _
             case new=>exact World.news_of_block (fr:=(0,0)) (B:=wr.heap.size+1) (t:=65) (cs:= #[.int .i64 xo, .int .i64 xa, .int .i64 xb, .int .i64 xc]) (Blk.new' (by simp))
             case one=>exact Azh _
             case len=>(unfold maxLen;omega)
             case byt=>omega
             case bas=>(have:=HM2.out.below.size;simp;omega)
             case siz=>simp
             intro g3 cap3 w3 hown3 hgrow3 hat3 hlt3))
         have hN:=HM2.out.one hlt HX.out HY.out hown3 (by rw[HNF.out]) hgrow3;go_wp2;go_roundw
         case rel=>exact⟨k+1,by omega,by go_num,hN⟩
         case measure=>simp[intOf];omega
        ·obtain rfl:k=l.length:=by omega
         have hF:=hM.own;rw[List.take_length] at hF;have HF:=Lib.hid hF;have HB:=Lib.hid hM.below;clear hM hF;go_wp2;go_ret2;exact MadePost.yes HR.out rfl HF.out HB.out
 ·have HC:=Lib.hid hc0
  have hc1:(check l == 0)=false:=by rw[beq_eq_false_iff_ne];exact hc0
  have hc2:(check l != 0)=true:=by rw[bne_iff_ne];exact hc0
  clear hc0;go_enter Tryd.func70,Tryd.ntmps70;go_wp2_with fail;refine(Bzc A c l w hr ht HL.out).mono ?_;rintro e w1 ⟨rfl,hb1⟩;go_wp2;go_ret2;exact MadePost.no (n:=check l) (by rw[Fzc,if_neg HC.out]) rfl hb1
def oddW (n:Int):Bool:=decide (n<0∨65535<n)
def memN (r:Ins):Nat→Nat
 | 0=>pick r.a 65536
 | i+1=>(memN r i*31+pick r.b 1000+7) % 65536
def memV (r:Ins) (i:Nat):Nat:=if pick (wrap64 (r.c+i)) 3=0 then memN r (i+1) % 70 else memN r i
def Dzs (r:Ins) (k:Nat):List Int:=(List.range k).map fun i=>(memV r i:Int)
theorem Nz6 (r:Ins) (i:Nat):memN r i<65536:=by
 cases i with
 | zero=>exact Bz5 _ (by omega)
 | succ i=>exact Nat.mod_lt _ (by omega)
theorem Rz1 (r:Ins) (i:Nat):memV r i<65536:=by
 unfold memV;have:=Nz6 r i;split<;>omega
theorem Bzd (r:Ins) (k:Nat):(Dzs r k).length=k:=by simp[Dzs]
theorem Szd (r:Ins) (k:Nat):(Dzs r k).any oddW=false:=by
 rw[List.any_eq_false];intro x hx;simp only[Dzs,List.mem_map] at hx;obtain⟨i,_,rfl⟩:=hx;have:=Rz1 r i;simp[oddW];omega
set_option linter.unusedVariables false
set_option linter.unusedSimpArgs false
theorem Nz0:(Tryd.prog.info? 3).map (fun i=>(i.zero,i.size,i.bytes))=some (some (.int .i64 0),1,8):=by kernel_rfl
structure MemS (w wr:World) (r:Ins) (n k:Nat) (cs:Array Value):Prop where
 below:Below w.heap.size w wr
 raw:Blk wr w.heap.size 23 #[.int .i64 r.op, .int .i64 r.a, .int .i64 r.b, .int .i64 r.c]
 blk:Blk wr (w.heap.size+1) 3 cs
 size:cs.size=n
 known:∀ j,j<k→cs[j]? =some (.int .i64 (memV r j:Nat))
theorem MemS.set {w wr:World} {r:Ins} {n k:Nat} {cs:Array Value} (h:MemS w wr r n k cs) (hk:k<n) (x:Nat):MemS w (wr.setCell ⟨w.heap.size+1,k,none⟩ (.int .i64 (x:Int))) r n k (cs.setIfInBounds k (.int .i64 (x:Int))):=by
 refine⟨h.below.setCell (p:=⟨w.heap.size+1,k,none⟩) (by simp) _,h.raw.far (by simp) _,h.blk.set_ k _,by simp[h.size],fun j hj=>?_⟩;rw[Array.getElem?_setIfInBounds,if_neg (by omega)];exact h.known j hj
theorem MemS.next {w wr:World} {r:Ins} {n k:Nat} {cs:Array Value} (h:MemS w wr r n k cs) (hk:k<n) (x:Nat) (hx:memV r k=x):MemS w (wr.setCell ⟨w.heap.size+1,k,none⟩ (.int .i64 (x:Int))) r n (k+1) (cs.setIfInBounds k (.int .i64 (x:Int))):=by
 refine⟨h.below.setCell (p:=⟨w.heap.size+1,k,none⟩) (by simp) _,h.raw.far (by simp) _,h.blk.set_ k _,by simp[h.size],fun j hj=>?_⟩;rw[Array.getElem?_setIfInBounds];by_cases e:k=j
 ·subst e
  simp[h.size,hk,hx]
 ·rw[if_neg e]
  exact h.known j (by omega)
theorem MemS.own {w wr:World} {r:Ins} {n:Nat} {cs:Array Value} (h:MemS w wr r n n cs) (hn:n≤maxLen):wr.ownsRow w.heap.size 3 1 (.slice (some ⟨w.heap.size+1,0,none⟩) n n) n (intCells (Dzs r n)):=by
 have e:cs=(intCells (Dzs r n)).toArray:=by
  apply Array.ext
  ·simp[h.size,intCells,Bzd]
  ·intro i h1 h2
   have hi:i<n:=by rw[←h.size];exact h1
   have:=h.known i hi;rw[Array.getElem?_eq_getElem h1] at this;have:=Option.some.inj this;rw[this];simp[intCells,Dzs]
 have hb:=h.blk;rw[e] at hb;exact⟨by simp[intCells,Bzd], .inr ⟨w.heap.size+1,n,(intCells (Dzs r n)).toArray,rfl,by omega,hb,Nat.le_refl _,hn,by simp[intCells,Bzd],by rw[List.take_of_length_le (by simp[intCells,Bzd])]⟩⟩
theorem Lza (w:World) (r:Ins) (n:Nat):MemS w ((w.alloc (.cells #[.int .i64 r.op, .int .i64 r.a, .int .i64 r.b, .int .i64 r.c] 23)).alloc (.cells (madeCells #[.int .i64 0] n) 3)) r n 0 (madeCells #[.int .i64 0] n):=by
 have h1:=(Below.refl w.heap.size w).alloc (Nat.le_refl _) (.cells #[.int .i64 r.op, .int .i64 r.a, .int .i64 r.b, .int .i64 r.c] 23);exact⟨h1.alloc h1.size _,(Blk.new w _ _).alloc _,Blk.new' (by simp),by rw[size_madeCells],fun j hj=>by omega⟩
theorem Oze (r:Ins) (hr:r.wf) (n:Nat) (hn:n≤1024) (w:World):
  Calls Tryd.prog 73 #[.agg #[.int .i64 r.op, .int .i64 r.a, .int .i64 r.b, .int .i64 r.c], .int .i64 (n:Int)] w fun e w'=>∃ V,e= .returned V∧w'.ownsRow w.heap.size 3 1 V n (intCells (Dzs r n))∧Below w.heap.size w w':=by
 obtain⟨_,hra,hrb,hrc⟩:=hr;have CA:Hid (∀ W:World,Calls Tryd.prog 13 #[.int .i64 r.a, .int .i64 65536] W fun e w'=>e= .returned (.int .i64 (memN r 0:Nat))∧W=w'):=fun W=>Azd r.a 65536 W hra.1 hra.2 (by omega) (by omega)
 obtain⟨qb,hqb⟩:∃ qb,qb=pick r.b 1000:=⟨_,rfl⟩;have hqb1:qb<1000:=by rw[hqb];exact Bz5 _ (by omega)
 have CB:Hid (∀ W:World,Calls Tryd.prog 13 #[.int .i64 r.b, .int .i64 1000] W fun e w'=>e= .returned (.int .i64 (qb:Nat))∧W=w'):=fun W=>by rw[hqb];exact Azd r.b 1000 W hrb.1 hrb.2 (by omega) (by omega)
 have CC:Hid (∀ (x:Int) (W:World),Calls Tryd.prog 13 #[.int .i64 (wrap64 x), .int .i64 3] W fun e w'=>e= .returned (.int .i64 (pick (wrap64 x) 3:Nat))∧W=w'):=fun x W=>Azd (wrap64 x) 3 W (by unfold wrap64;omega) (by unfold wrap64;omega) (by omega) (by omega)
 have HQ:=Lib.hid hqb;clear hqb hra hrb hrc;have hmk:∀ w:World,(Instr.makeSlice 31 (.int .i64 (n:Int)) (.int .i64 (n:Int))).run Tryd.prog w= .ok (.slice (some ⟨w.heap.size,0,none⟩) n n) (w.alloc (.cells (madeCells #[.int .i64 0] n) 3)):=
  fun w=>by have e:=Ez7 w 31 3 _ 1 8 n Tryd.underlying31 Nz0 (by omega) (by omega);rw[Nat.mul_one] at e;exact e
 have hS:=Lza w r n;go_enter Tryd.func73,Tryd.ntmps73;go_wp2_with (first|(go_at_call 13;(with_reducible refine(CA.out _).mono ?_);rintro e w' ⟨rfl,rfl⟩));go_loopw [6,15] (fun x i wr=>Cnt n i fun k=>x= .int .i64 (memN r k:Nat)∧∃ cs,MemS w wr r n k cs) (fun _ i _=>n - (intOf i).toNat)
 case atStart=>exact⟨0,Nat.zero_le _,rfl,rfl,_,hS⟩
 case round=>
  clear hS;obtain⟨k,hk',rfl,rfl,cs,hS⟩:=hrel;by_cases hlt:k<n
  ·obtain⟨q,hq⟩:∃ q,q=memN r k:=⟨_,rfl⟩
   have hq1:q<65536:=by rw[hq];exact Nz6 r k
   have HM:Hid (memN r (k+1)=(q*31+qb+7) % 65536):=by show _=_;rw[hq,HQ.out];rfl
   have HV:Hid (memV r k=if pick (wrap64 (r.c+k)) 3=0 then memN r (k+1) % 70 else q):=by show _=_;rw[hq];rfl
   rw[←hq];clear hq;have hS1:=hS.set hlt q;have hw1:IntKind.i64.wrap ((q:Int)*31)=(q:Int)*31:=Go.IntWalk.i64_in _ (by omega);obtain⟨x0,hx0⟩:∃ x0,cs[k]? =some x0:=⟨_,Array.getElem?_eq_getElem (by rw[hS.size];exact hlt)⟩;have c0:=(hS.blk.cell k).trans hx0;have f0:=hS.blk.frozen k;obtain⟨-, -,d2,d3, -⟩:=hS1.raw.a4;simp at d2 d3;obtain⟨x1,hx1⟩:∃ x1,(cs.setIfInBounds k (.int .i64 (q:Int)))[k]? =some x1:=⟨_,Array.getElem?_eq_getElem (by simp[hS.size,hlt])⟩;have c1:=(hS1.blk.cell k).trans hx1;have f1:=hS1.blk.frozen k;clear hx0 hx1;have HS:=Lib.hid hS;have HS1:=Lib.hid hS1;clear hS hS1;by_cases hp:pick (wrap64 (r.c+k)) 3=0
   ·have CP:Hid (∀ W:World,Calls Tryd.prog 13 #[.int .i64 (wrap64 (r.c+k)), .int .i64 3] W fun e w'=>e= .returned (.int .i64 0)∧W=w'):=fun W=>by have:=CC.out (r.c+k) W;rw[hp] at this;exact this
    have HV2:Hid (memV r k=((q*31+qb+7) % 65536) % 70):=by show _=_;rw[HV.out,if_pos hp,HM.out]
    clear hp;go_wp2_with (first|(go_at_call 13;(with_reducible refine(CB.out _).mono ?_);rintro e w' ⟨rfl,rfl⟩)|(go_at_call 13;(with_reducible refine(CP.out _).mono ?_);rintro e w' ⟨rfl,rfl⟩));have e1:((q:Int)*31+(qb:Int)+7) % 65536 % 70=(((q*31+qb+7) % 65536 % 70:Nat):Int):=by omega
    have e2:((q:Int)*31+(qb:Int)+7) % 65536=(((q*31+qb+7) % 65536:Nat):Int):=by omega
    exact⟨⟨k+1,hlt,by go_num,by rw[HM.out,e2],_,by rw[e1];exact HS1.out.next hlt _ HV2.out⟩,by simp[intOf];omega⟩
   ·have hp0:¬ ((pick (wrap64 (r.c+k)) 3:Nat):Int)=0:=by omega
    have HV2:Hid (memV r k=q):=by show _=_;rw[HV.out,if_neg hp]
    clear hp;go_wp2_with (first|(go_at_call 13;(with_reducible refine(CB.out _).mono ?_);rintro e w' ⟨rfl,rfl⟩)|(go_at_call 13;(with_reducible refine(CC.out _ _).mono ?_);rintro e w' ⟨rfl,rfl⟩));have e2:((q:Int)*31+(qb:Int)+7) % 65536=(((q*31+qb+7) % 65536:Nat):Int):=by omega
    exact⟨⟨k+1,hlt,by go_num,by rw[HM.out,e2],_,HS.out.next hlt _ HV2.out⟩,by simp[intOf];omega⟩
  ·obtain rfl:k=n:=by omega
   go_wp2;go_ret;exact⟨_,rfl,hS.own (by unfold maxLen;omega),hS.below⟩
end Go.Proofs.YtdjamdbamkhblacDoor
