/- The walk of the reference decoder's next: one byte more, or it went short. No condition. The walk of the reference's ModuleOf: its state, and the one drawn round. No condition. -/
import Derived.Test.YtdjamdbamkhblacGreatDoorG19
set_option maxHeartbeats 8000000
namespace Go.Proofs.YtdjamdbamkhblacGreatDoor
open Go.RowKit
set_option linter.unusedVariables false
set_option linter.unusedSimpArgs false
def Czo (t:List UInt8):Option (List UInt8)→Nat
 | none=>t.length
 | some r=>t.length - r.length
structure NxtAt (w:World) (bt bi bs:Nat) (t:List UInt8) (st:Option (List UInt8)):Prop where
 tx:Blk w bt 9 #[.string (ba t)]
 ix:Blk w bi 3 #[.int .i64 (Czo t st:Nat)]
 sx:Blk w bs 4 #[.bool st.isNone]
 suf:∀ r,st=some r→r.length≤t.length∧r=t.drop (t.length - r.length)
 len:t.length≤4000
structure Nx (bi bs:Nat) (w w':World):Prop where
 os:w'.os=w.os
 tape:w'.tape=w.tape
 output:w'.output=w.output
 size:w'.heap.size=w.heap.size
 block:∀ q,q≠bi→q≠bs→w'.heap[q]? =w.heap[q]?
section
variable {w w' w'':World} {bt bi bs B:Nat}
theorem Nx.of_i (w:World) (bi bs:Nat) (u:Value):Nx bi bs w (w.setCell ⟨bi,0,none⟩ u):=⟨rfl,rfl,rfl,by simp,fun q h _=>Below.heap_setCell w ⟨bi,0,none⟩ u q h⟩
theorem Nx.of_s (w:World) (bi bs:Nat) (u:Value):Nx bi bs w (w.setCell ⟨bs,0,none⟩ u):=⟨rfl,rfl,rfl,by simp,fun q _ h=>Below.heap_setCell w ⟨bs,0,none⟩ u q h⟩
theorem Nx.trans (h:Nx bi bs w w') (h':Nx bi bs w' w''):Nx bi bs w w'':=⟨h'.os.trans h.os,h'.tape.trans h.tape,h'.output.trans h.output,h'.size.trans h.size,fun q h1 h2=>(h'.block q h1 h2).trans (h.block q h1 h2)⟩
theorem Nx.below (h:Nx bi bs w w') (h1:B≤bi) (h2:B≤bs):Below B w w':=⟨h.os,h.tape,h.output,Nat.le_of_eq h.size.symm,fun q hq=>h.block q (by omega) (by omega)⟩
theorem Blk.nx {g:Nat} {t:TypeId} {cs:Array Value} (h:Blk w g t cs) (hn:Nx bi bs w w') (h1:g≠bi) (h2:g≠bs):Blk w' g t cs:=(hn.block g h1 h2).trans h
theorem Qzd {base:Nat} {e:TypeId} {size n:Nat} {v:Value} {xs:List Value} (h:w.ownsRow base e size v n xs) (hn:Nx bi bs w w') (h1:bi<base) (h2:bs<base):w'.ownsRow base e size v n xs:=by
 refine⟨h.1,?_⟩;rcases h.2 with h2'|⟨g,cap,cur,hv,hb,hg,r⟩
 ·exact .inl h2'
 ·exact .inr ⟨g,cap,cur,hv,hb,(hn.block g (by omega) (by omega)).trans hg,r⟩
end
theorem next_any (bt bi bs:Nat) (t:List UInt8) (st:Option (List UInt8)) (w:World) (h:NxtAt w bt bi bs t st) (hd:bt≠bi∧bt≠bs∧bi≠bs):
  Calls Tryz.prog 64 #[.pointer (some ⟨bi,0,none⟩), .pointer (some ⟨bt,0,none⟩), .pointer (some ⟨bs,0,none⟩)] w fun e w'=>e= .returned (.int .i64 ((numS 1 st).1:Nat))∧NxtAt w' bt bi bs t (numS 1 st).2∧Nx bi bs w w':=by
 have hs:=Dz8 t;have hl:=h.len;have c0:=h.tx.cell 0;have c1:=h.ix.cell 0;have c2:=h.sx.cell 0;have f1:=h.ix.frozen 0;have f2:=h.sx.frozen 0;simp at c0 c1 c2;obtain⟨d1,d2,d3⟩:=hd;have H:=Lib.hid h;have hz0:=h.tx.lt;have hz1:=h.ix.lt;have hz2:=h.sx.lt;clear h;have short:numS 1 st=(0,none)→Czo t st=t.length→Calls Tryz.prog 64 #[.pointer (some ⟨bi,0,none⟩), .pointer (some ⟨bt,0,none⟩), .pointer (some ⟨bs,0,none⟩)] w fun e w'=>e= .returned (.int .i64 ((numS 1 st).1:Nat))∧NxtAt w' bt bi bs t (numS 1 st).2∧Nx bi bs w w':=fun e1 e2=>by
  rw[e2] at c1;have HE:=Lib.hid e1;have HP:=Lib.hid e2;clear e1 e2;go_enter Tryz.func64,Tryz.ntmps64;go_wp2;go_ret;rw[HE.out];refine⟨rfl,⟨H.out.tx.far (p:=⟨bs,0,none⟩) d2 _,?_,H.out.sx.set_ 0 _,fun r hr=>by simp at hr,hl⟩,Nx.of_s w bi bs _⟩;have:=H.out.ix.far (p:=⟨bs,0,none⟩) d3 (.bool true);rw[HP.out] at this;exact this
 cases st with
 | none=>exact short rfl rfl
 | some r=>
   cases r with
   | nil=>exact short rfl (by simp[Czo])
   | cons c r=>
     clear short;obtain⟨q1,q2⟩:=H.out.suf _ rfl;obtain⟨j,hj⟩:∃ j,j=t.length - (r.length+1):=⟨_,rfl⟩;have hlen:(c::r).length=r.length+1:=rfl;rw[hlen] at q1 q2;have hjl:j<t.length:=by omega
     have hpo:Czo t (some (c::r))=j:=hj.symm;rw[hpo] at c1;rw[←hj] at q2;have hc:t[j]=c∧t.drop (j+1)=r:=by
      rw[List.drop_eq_getElem_cons hjl] at q2;injection q2 with h1 h2
      exact⟨h1.symm,h2.symm⟩
     have hjs:j<(ba t).size:=hjl;have hx:((ba t)[j].toNat:Int)≤255:=by have:=(ba t)[j].toNat_lt;omega
     have HC:=Lib.hid hc;have HJ:=Lib.hid hj;clear hc q2 hj hpo hlen;rw[Bza];have hjI:(j:Int)<(t.length:Int):=by omega
     go_enter Tryz.func64,Tryz.ntmps64;go_wp2;go_ret;have hpo':Czo t (some r)=j+1:=by have:=HJ.out;show t.length - r.length=_;omega
     refine⟨?_,⟨H.out.tx.far (p:=⟨bi,0,none⟩) d1 _,?_,H.out.sx.far (p:=⟨bi,0,none⟩) (Ne.symm d3) _,fun r' hr=>?_,hl⟩,Nx.of_i w bi bs _⟩
     ·rw[←HC.out.1]
      rfl
     ·have:=H.out.ix.set_ 0 (.int .i64 ((j:Int)+1))
      rw[hpo'];exact this
     ·cases hr
      refine⟨by omega,?_⟩;rw[show t.length - r.length=j+1 by have:=HJ.out;omega];exact HC.out.2.symm
structure MO (w0 w:World) (bt bi bs bm B1:Nat) (t:List UInt8) (st:Option (List UInt8)) (nm:List UInt8) (VC VD:Value) (L:List Ins) (D:List Int):Prop where
 below:Below w0.heap.size w0 w
 nx:NxtAt w bt bi bs t st
 md:Blk w bm 47 #[.string (ba nm),VC,VD]
 oc:w.ownsRow B1 104 4 VC L.length (Azc L)
 od:w.ownsRow B1 3 1 VD D.length (intCells D)
 res:Blk w w0.heap.size 47 #[.string ⟨#[]⟩, .slice none 0 0, .slice none 0 0]
 ord:w0.heap.size<bt∧bt<bi∧bi<bs∧bs<bm∧bm<B1∧B1≤w.heap.size
section
variable {w0 w w':World} {bt bi bs bm bx B1:Nat} {t:List UInt8} {st st':Option (List UInt8)} {nm:List UInt8} {VC VD:Value} {L:List Ins} {D:List Int}
theorem MO.dist (h:MO w0 w bt bi bs bm B1 t st nm VC VD L D):bt≠bi∧bt≠bs∧bi≠bs:=by have:=h.ord;omega
theorem MO.next (h:MO w0 w bt bi bs bm B1 t st nm VC VD L D) (hR:NxtAt w' bt bi bs t st') (hg:Nx bi bs w w'):MO w0 w' bt bi bs bm B1 t st' nm VC VD L D:=by
 obtain⟨o1,o2,o3,o4,o5,o6⟩:=h.ord;have hb:Below w0.heap.size w w':=hg.below (by omega) (by omega);exact⟨h.below.trans hb,hR,h.md.nx hg (by omega) (by omega),Qzd h.oc hg (by omega) (by omega),Qzd h.od hg (by omega) (by omega),h.res.nx hg (by omega) (by omega),o1,o2,o3,o4,o5,by rw[hg.size];exact o6⟩
theorem NxtAt.below (h:NxtAt w bt bi bs t st) (hb:Below w.heap.size w w'):NxtAt w' bt bi bs t st:=⟨h.tx.below hb h.tx.lt,h.ix.below hb h.ix.lt,h.sx.below hb h.sx.lt,h.suf,h.len⟩
theorem MO.up (h:MO w0 w bt bi bs bm B1 t st nm VC VD L D) (hb:Below w.heap.size w w'):MO w0 w' bt bi bs bm B1 t st nm VC VD L D:=by
 obtain⟨o1,o2,o3,o4,o5,o6⟩:=h.ord;exact⟨h.below.trans (hb.mono h.below.size),h.nx.below hb,h.md.below hb h.md.lt,own_below h.oc hb,own_below h.od hb,h.res.below hb h.res.lt,o1,o2,o3,o4,o5,Nat.le_trans o6 hb.size⟩
theorem MO.far {cs:Array Value} (h:MO w0 w bt bi bs bm B1 t st nm VC VD L D) (hx:Blk w bx 104 cs) (hB:B1≤bx) (ho:VC.ownBlock≠some bx) (o:Nat) (u:Value):MO w0 (w.setCell ⟨bx,o,none⟩ u) bt bi bs bm B1 t st nm VC VD L D:=by
 obtain⟨o1,o2,o3,o4,o5,o6⟩:=h.ord;have ht:=Tch.of_set (p:=⟨bx,o,none⟩) hx u;exact⟨h.below.setCell (p:=⟨bx,o,none⟩) (by show _≤bx;omega) u,⟨h.nx.tx.tch ht (by decide),h.nx.ix.tch ht (by decide),h.nx.sx.tch ht (by decide),h.nx.suf,h.nx.len⟩,h.md.tch ht (by decide),ownsRow_setCell_other h.oc (a:=⟨bx,o,none⟩) ho u,Az4 h.od ht (by decide),h.res.tch ht (by decide),o1,o2,o3,o4,o5,by simpa using o6⟩
end
theorem MO.start {w0 W:World} {bt:Nat} {t:List UInt8} (hb:Below w0.heap.size w0 W) (hT:Blk W bt 9 #[.string (ba t)]) (hR:Blk W w0.heap.size 47 #[.string ⟨#[]⟩, .slice none 0 0, .slice none 0 0]) (hl:t.length≤4000) (h0:w0.heap.size<bt):
  MO w0 (((W.alloc (.cells #[.int .i64 0] 3)).alloc (.cells #[.bool false] 4)).alloc (.cells #[.string ⟨#[]⟩, .slice none 0 0, .slice none 0 0] 47)) bt W.heap.size (W.heap.size+1) (W.heap.size+1+1) (W.heap.size+1+1+1) t (some t) [] (.slice none 0 0) (.slice none 0 0) [] []:=by
 have b1:=hb.alloc hb.size (.cells #[.int .i64 0] 3);have b2:=b1.alloc b1.size (.cells #[.bool false] 4);have b3:=b2.alloc b2.size (.cells #[.string ⟨#[]⟩, .slice none 0 0, .slice none 0 0] 47);refine⟨b3,⟨((hT.alloc _).alloc _).alloc _,?_,?_,fun r hr=>?_,hl⟩,Blk.new' (by simp),World.ownsRow_nil _ _ _ _,World.ownsRow_nil _ _ _ _,((hR.alloc _).alloc _).alloc _,h0,hT.lt,by omega,by omega,by omega,by simp⟩
 ·have:Czo t (some t)=0:=by simp[Czo]
  rw[this];exact((Blk.new W 3 #[.int .i64 0]).alloc _).alloc _
 ·exact(Blk.new' (w:=W.alloc (.cells #[.int .i64 0] 3)) (by simp)).alloc _
 ·cases hr
  exact⟨Nat.le_refl _,by simp⟩
theorem Pzl (t:List UInt8) (st:Option (List UInt8)):Czo t st≤t.length:=by
 unfold Czo;split<;>omega
section
variable {w0 w w':World} {bt bi bs bm bx B1:Nat} {t:List UInt8} {st st':Option (List UInt8)} {nm:List UInt8} {VC VD:Value} {L:List Ins} {D:List Int}
theorem MO.name (h:MO w0 w bt bi bs bm B1 t st nm VC VD L D) (nm':List UInt8):MO w0 (w.setCell ⟨bm,0,none⟩ (.string (ba nm'))) bt bi bs bm B1 t st nm' VC VD L D:=by
 obtain⟨o1,o2,o3,o4,o5,o6⟩:=h.ord;exact⟨h.below.setCell (p:=⟨bm,0,none⟩) (by show _≤bm;omega) _,⟨h.nx.tx.far (p:=⟨bm,0,none⟩) (by show bt≠bm;omega) _,h.nx.ix.far (p:=⟨bm,0,none⟩) (by show bi≠bm;omega) _,h.nx.sx.far (p:=⟨bm,0,none⟩) (by show bs≠bm;omega) _,h.nx.suf,h.nx.len⟩,h.md.set_ 0 _,
  ownsRow_setCell_below h.oc (a:=⟨bm,0,none⟩) o5 _,ownsRow_setCell_below h.od (a:=⟨bm,0,none⟩) o5 _,h.res.far (p:=⟨bm,0,none⟩) (by show w0.heap.size≠bm;omega) _,o1,o2,o3,o4,o5,by simpa using o6⟩
theorem MO.skip (h:MO w0 w bt bi bs bm B1 t st nm VC VD L D) (p:Nat) (hp:Czo t st'=p) (hn:st'.isNone=st.isNone) (hs:∀ r,st'=some r→r.length≤t.length∧r=t.drop (t.length - r.length)):MO w0 (w.setCell ⟨bi,0,none⟩ (.int .i64 (p:Nat))) bt bi bs bm B1 t st' nm VC VD L D:=by
 have hx:=h.nx.ix.set_ 0 (.int .i64 (p:Nat));refine h.next (w':=w.setCell ⟨bi,0,none⟩ (.int .i64 (p:Nat))) ⟨h.nx.tx.far (p:=⟨bi,0,none⟩) h.dist.1 _,?_,?_,hs,h.nx.len⟩ (Nx.of_i w bi bs _)
 ·rw[hp];exact hx
 ·rw[hn];exact h.nx.sx.far (p:=⟨bi,0,none⟩) (Ne.symm h.dist.2.2) _
theorem MO.code {V:Value} {L':List Ins} (h:MO w0 w bt bi bs bm B1 t st nm VC VD L D) (ho:w'.ownsRow B1 104 4 V L'.length (Azc L')) (hg:w.grownBy w' VC.ownBlock):MO w0 (w'.setCell ⟨bm,1,none⟩ V) bt bi bs bm B1 t st nm V VD L' D:=by
 obtain⟨o1,o2,o3,o4,o5,o6⟩:=h.ord;have ht:=Tch.of_grown h.oc hg;have hm:=h.md.tch ht (by decide);have ht2:=Tch.of_set (p:=⟨bm,1,none⟩) hm V;have hb1:Below w0.heap.size w0 w':=h.below.grown hg h.below.size (fun q hq=>by have:=(h.oc.lt q hq).1;omega);exact⟨hb1.setCell (p:=⟨bm,1,none⟩) (by show _≤bm;omega) _,⟨(h.nx.tx.tch ht (by decide)).tch ht2 (by decide),(h.nx.ix.tch ht (by decide)).tch ht2 (by decide),(h.nx.sx.tch ht (by decide)).tch ht2 (by decide),h.nx.suf,h.nx.len⟩,hm.set_ 1 V,
  Az4 ho ht2 (by decide),Az4 (Az4 h.od ht (by decide)) ht2 (by decide),(h.res.tch ht (by decide)).far (p:=⟨bm,1,none⟩) (by show w0.heap.size≠bm;omega) _,o1,o2,o3,o4,o5,by have:=hg.size;simp;omega⟩
theorem MO.data {V:Value} {D':List Int} (h:MO w0 w bt bi bs bm B1 t st nm VC VD L D) (ho:w'.ownsRow B1 3 1 V D'.length (intCells D')) (hg:w.grownBy w' VD.ownBlock):MO w0 (w'.setCell ⟨bm,2,none⟩ V) bt bi bs bm B1 t st nm VC V L D':=by
 obtain⟨o1,o2,o3,o4,o5,o6⟩:=h.ord;have kp:∀ {q:Nat} {e:TypeId} {cs:Array Value},Blk w q e cs→q<B1→Blk w' q e cs:=fun hq hlt=>hq.grown hg (fun e=>by have:=(h.od.lt _ e.symm).1;omega)
 have ht:=Tch.of_grown h.od hg;have hm:=h.md.tch ht (by decide);have ht2:=Tch.of_set (p:=⟨bm,2,none⟩) hm V;have hb1:Below w0.heap.size w0 w':=h.below.grown hg h.below.size (fun q hq=>by have:=(h.od.lt q hq).1;omega);exact⟨hb1.setCell (p:=⟨bm,2,none⟩) (by show _≤bm;omega) _,⟨(kp h.nx.tx (by omega)).tch ht2 (by decide),(kp h.nx.ix (by omega)).tch ht2 (by decide),(kp h.nx.sx (by omega)).tch ht2 (by decide),h.nx.suf,h.nx.len⟩,hm.set_ 2 V,
  Az4 (Az4 h.oc ht (by decide)) ht2 (by decide),Az4 ho ht2 (by decide),(h.res.tch ht (by decide)).far (p:=⟨bm,2,none⟩) (by show w0.heap.size≠bm;omega) _,o1,o2,o3,o4,o5,by have:=hg.size;simp;omega⟩
end
def c3 (a b c d:Int):Array Value:= #[.int .i64 a, .int .i64 b, .int .i64 c, .int .i64 d]
structure RX (w0 W:World) (bt bi bs bm bx B1:Nat) (t:List UInt8) (st st':Option (List UInt8)) (nm:List UInt8) (VC VD:Value) (L:List Ins) (D:List Int) (cs cs':Array Value) (b3 b6:Bool):Prop where
 mo:MO w0 W bt bi bs bm B1 t (if b3 then st' else st) nm VC VD L D
 x:Blk W bx 104 (if b6 then cs' else cs)
 hB:B1≤bx
 ho:VC.ownBlock≠some bx
section
variable {w0 W W':World} {bt bi bs bm bx B1:Nat} {t:List UInt8} {st st':Option (List UInt8)} {nm:List UInt8} {VC VD:Value} {L:List Ins} {D:List Int} {cs cs':Array Value} {b3 b6:Bool}
theorem RX.drew (h:RX w0 W bt bi bs bm bx B1 t st st' nm VC VD L D cs cs' b3 b6):RX w0 W.drew bt bi bs bm bx B1 t st st' nm VC VD L D cs cs' b3 b6:=
 ⟨h.mo.up (Below.drewN' (Below.refl _ _) 1),h.x.drew,h.hB,h.ho⟩
theorem RX.next (h:RX w0 W bt bi bs bm bx B1 t st st' nm VC VD L D cs cs' b3 b6) (h3:b3=false) (hR:NxtAt W' bt bi bs t st') (hg:Nx bi bs W W'):RX w0 W' bt bi bs bm bx B1 t st st' nm VC VD L D cs cs' true b6:=by
 have:=h.mo.ord;exact⟨h.mo.next hR hg,h.x.nx hg (by have:=h.hB;omega) (by have:=h.hB;omega),h.hB,h.ho⟩
theorem RX.store {a b c d e:Int} (h:RX w0 W bt bi bs bm bx B1 t st st' nm VC VD L D (c3 a b c d) (c3 a b c e) b3 b6) (h6:b6=false):RX w0 (W.setCell ⟨bx,3,none⟩ (.int .i64 e)) bt bi bs bm bx B1 t st st' nm VC VD L D (c3 a b c d) (c3 a b c e) b3 true:=by
 subst h6;exact⟨h.mo.far h.x h.hB h.ho 3 _,h.x.set_ 3 (.int .i64 e),h.hB,h.ho⟩
end
structure OJ27 (w0:World) (bt bi bs bm bx B1 a3:Nat) (x1 x2 x3:Int) (t:List UInt8) (st:Option (List UInt8)) (nm:List UInt8) (VC VD:Value) (L:List Ins) (D:List Int) (t0t t1t t2t t3t t4t t5t t6t:Bool) (W:World) (y80 y81 y82 y83 y84 y85:Value):Prop where
 f0:t0t=true→y80= .pointer (some ⟨bx,3,none⟩)
 f1:t1t=true→y81= .int .i64 (256*(a3:Int))
 f2:t2t=true→y82= .func (.func 64) #[] #[.pointer (some ⟨bi,0,none⟩), .pointer (some ⟨bt,0,none⟩), .pointer (some ⟨bs,0,none⟩)]
 f3:t3t=true→y83= .int .i64 (((numS 1 st).1:Nat):Int)
 f4:t4t=true→y84= .int .i64 (256*(a3:Int)+((numS 1 st).1:Nat))
 f5:t5t=true→y85= .pointer (some ⟨bx,3,none⟩)
 f6:t6t=true→True
 q6_4:t6t=true→t4t=true
 q4_1:t4t=true→t1t=true
 w:RX w0 W bt bi bs bm bx B1 t st (numS 1 st).2 nm VC VD L D (c3 x1 x2 x3 (256*(a3:Int))) (c3 x1 x2 x3 (256*(a3:Int)+((numS 1 st).1:Nat))) (t3t) (t6t)
noncomputable def Rzf:Code:=((Tryz.f23.body.bind (Czf 27)).getD .skip)
set_option maxRecDepth 1000000 in
theorem Szq (w0:World) (bt bi bs bm bx B1 a3:Nat) (x1 x2 x3:Int) (t:List UInt8) (st:Option (List UInt8)) (nm:List UInt8) (VC VD:Value) (L:List Ins) (D:List Int) {v0 v1 v2 v3 v4 v5 v6 v8 v9 v10 v12 v13 v14 v15 v16 v17 v18 v19 v20 v21 v22 v23 v24 v25 v26 v27 v28 v29 v30 v31 v32 v33 v34 v35 v36 v37 v38 v39 v40 v41 v42 v43 v44 v45 v46 v47 v48 v49 v50 v51 v52 v53 v54 v55 v56 v57 v58 v59 v60 v61 v62 v63 v64 v65 v66 v67 v68 v69 v70 v71 v72 v73 v74 v75 v76 v77 v78 v79 v80 v81 v82 v83 v84 v85 v86 v87 v88 v89 v90 v91 v92 v93 v94 v95 v96 v97 v98 v99 v100 v101 v102 v103 v104 v105 v106 v107 v108 v109 v110 v111 v112 v113 v114 v115 v116 v117 v118 v119 v120 v121 v122 v123 v124 v125 v126 v127:Value} (wr:World) (Q:Exit→Act→World→Prop) (hd:RX w0 wr bt bi bs bm bx B1 t st (numS 1 st).2 nm VC VD L D (c3 x1 x2 x3 (256*(a3:Int))) (c3 x1 x2 x3 (256*(a3:Int)+((numS 1 st).1:Nat))) false false) (ha3:a3≤255)
  (hQ:∀ (listed:Array Bool) (W:World) (y80 y81 y82 y83 y84 y85:Value),(∀ i,i<7→listed.getD i true=true)→OJ27 w0 bt bi bs bm bx B1 a3 x1 x2 x3 t st nm VC VD L D (listed.getD 0 true) (listed.getD 1 true) (listed.getD 2 true) (listed.getD 3 true) (listed.getD 4 true) (listed.getD 5 true) (listed.getD 6 true) W y80 y81 y82 y83 y84 y85→Q .normal ⟨#[v0,v1,v2,v3,v4,v5,v6, .func (.func 64) #[] #[.pointer (some ⟨bi,0,none⟩), .pointer (some ⟨bt,0,none⟩), .pointer (some ⟨bs,0,none⟩)],v8,v9,v10, .pointer (some ⟨bx,0,none⟩),v12,v13,v14,v15,v16,v17,v18,v19,v20,v21,v22,v23,v24,v25,v26,v27,v28,v29,v30,v31,v32,v33,v34,v35,v36,v37,v38,v39,v40,v41,v42,v43,v44,v45,v46,v47,v48,v49,v50,v51,v52,v53,v54,v55,v56,v57,v58,v59,v60,v61,v62,v63,v64,v65,v66,v67,v68,v69,v70,v71,v72,v73,v74,v75,v76,v77,v78,v79,y80,y81,y82,y83,y84,y85,v86,v87,v88,v89,v90,v91,v92,v93,v94,v95,v96,v97,v98,v99,v100,v101,v102,v103,v104,v105,v106,v107,v108,v109,v110,v111,v112,v113,v114,v115,v116,v117,v118,v119,v120,v121,v122,v123,v124,v125,v126,v127],[]⟩ W):
  Code.wp Tryz.prog Rzf Q ⟨#[v0,v1,v2,v3,v4,v5,v6, .func (.func 64) #[] #[.pointer (some ⟨bi,0,none⟩), .pointer (some ⟨bt,0,none⟩), .pointer (some ⟨bs,0,none⟩)],v8,v9,v10, .pointer (some ⟨bx,0,none⟩),v12,v13,v14,v15,v16,v17,v18,v19,v20,v21,v22,v23,v24,v25,v26,v27,v28,v29,v30,v31,v32,v33,v34,v35,v36,v37,v38,v39,v40,v41,v42,v43,v44,v45,v46,v47,v48,v49,v50,v51,v52,v53,v54,v55,v56,v57,v58,v59,v60,v61,v62,v63,v64,v65,v66,v67,v68,v69,v70,v71,v72,v73,v74,v75,v76,v77,v78,v79,v80,v81,v82,v83,v84,v85,v86,v87,v88,v89,v90,v91,v92,v93,v94,v95,v96,v97,v98,v99,v100,v101,v102,v103,v104,v105,v106,v107,v108,v109,v110,v111,v112,v113,v114,v115,v116,v117,v118,v119,v120,v121,v122,v123,v124,v125,v126,v127],[]⟩ wr:=by
 have HQ:=Lib.hid hQ;clear hQ;conv=>arg 2;whnf
 refine Azw (fun listed a W=>∃ y80 y81 y82 y83 y84 y85,OJ27 w0 bt bi bs bm bx B1 a3 x1 x2 x3 t st nm VC VD L D (listed.getD 0 true) (listed.getD 1 true) (listed.getD 2 true) (listed.getD 3 true) (listed.getD 4 true) (listed.getD 5 true) (listed.getD 6 true) W y80 y81 y82 y83 y84 y85∧a=⟨#[v0,v1,v2,v3,v4,v5,v6, .func (.func 64) #[] #[.pointer (some ⟨bi,0,none⟩), .pointer (some ⟨bt,0,none⟩), .pointer (some ⟨bs,0,none⟩)],v8,v9,v10, .pointer (some ⟨bx,0,none⟩),v12,v13,v14,v15,v16,v17,v18,v19,v20,v21,v22,v23,v24,v25,v26,v27,v28,v29,v30,v31,v32,v33,v34,v35,v36,v37,v38,v39,v40,v41,v42,v43,v44,v45,v46,v47,v48,v49,v50,v51,v52,v53,v54,v55,v56,v57,v58,v59,v60,v61,v62,v63,v64,v65,v66,v67,v68,v69,v70,v71,v72,v73,v74,v75,v76,v77,v78,v79,y80,y81,y82,y83,y84,y85,v86,v87,v88,v89,v90,v91,v92,v93,v94,v95,v96,v97,v98,v99,v100,v101,v102,v103,v104,v105,v106,v107,v108,v109,v110,v111,v112,v113,v114,v115,v116,v117,v118,v119,v120,v121,v122,v123,v124,v125,v126,v127],[]⟩) (by kernel_rfl) (Fzs (by kernel_rfl)) ?start ?step ?fin
 case start=>
  refine⟨_,_,_,_,_,_,?_,rfl⟩;constructor
  all_goals first|exact hd.drew|exact fun _=>rfl|exact fun h=>absurd h (by decide)
 case step=>
  intro i o ho listed a W hl haf hI K hK;obtain⟨y80,y81,y82,y83,y84,y85,hJ,rfl⟩:=hI;have hK:=fun (W':World) z80 z81 z82 z83 z84 z85 h=>hK _ W' ⟨z80,z81,z82,z83,z84,z85,h,rfl⟩
  simp only[Az2] at hK;have hi:i<7:=(Array.getElem?_eq_some_iff.1 ho).1;have h16:i=0∨i=1∨i=2∨i=3∨i=4∨i=5∨i=6:=by omega
  have hq:=(Bzv 1 st (by omega)).2 (by omega);rcases h16 with rfl|rfl|rfl|rfl|rfl|rfl|rfl
  all_goals
   have ho:=Option.some.inj ho;subst ho
   try simp[Region.binds] at haf
  ·
    go_simp;apply hK;exact { hJ with f0:=fun _=>rfl }
  ·
    obtain rfl:=hJ.f0 (Az0 (by simp[haf]));have h6:listed.getD 6 true=false:=by
     rw[←Bool.not_eq_true];intro e;have e:=hJ.q4_1 (hJ.q6_4 e);rw[hl] at e;cases e
    have hx:=hJ.w.x;rw[h6] at hx;have m1:=hx.cell 3;simp[c3] at m1;go_simp;apply hK;exact { hJ with f1:=fun _=>rfl,q4_1:=fun _=>rfl }
  ·
    go_simp;apply hK;exact { hJ with f2:=fun _=>rfl }
  ·
    obtain rfl:=hJ.f2 (Az0 (by simp[haf]));have hm:=hJ.w.mo;rw[hl] at hm;go_simp;go_at_call 64;refine(next_any bt bi bs t st _ hm.nx hm.dist).mono ?_;rintro e' w2 ⟨rfl,hR,hg⟩;apply hK;exact { hJ with f3:=fun _=>rfl,w:=by exact hJ.w.next hl hR hg }
  ·
    have p1:listed.getD 1 true=true:=Az0 (by simp[haf]);obtain rfl:=hJ.f1 p1;obtain rfl:=hJ.f3 (Az0 (by simp[haf]));have hwr:IntKind.i64.wrap (256*(a3:Int)+(((numS 1 st).1:Nat):Int))=256*(a3:Int)+(((numS 1 st).1:Nat):Int):=Go.IntWalk.i64_in _ (by omega);go_simp;apply hK;exact { hJ with f4:=fun _=>rfl,q6_4:=fun _=>rfl,q4_1:=fun _=>p1 }
  ·
    go_simp;apply hK;exact { hJ with f5:=fun _=>rfl }
  ·
    have p4:listed.getD 4 true=true:=Az0 (by simp[haf]);obtain rfl:=hJ.f4 p4;obtain rfl:=hJ.f5 (Az0 (by simp[haf]));have hx:=hJ.w.x;rw[hl] at hx;have f3:=hx.frozen 3;have m3:=hx.cell 3;simp[c3] at m3;have hw:=hJ.w;go_simp;apply hK;exact { hJ with f6:=fun _=>trivial,q6_4:=fun _=>p4,w:=by exact hw.store hl }
 case fin=>
  intro listed a W hall hI;obtain⟨y80,y81,y82,y83,y84,y85,hJ,rfl⟩:=hI;exact HQ.out listed W _ _ _ _ _ _ hall hJ
end Go.Proofs.YtdjamdbamkhblacGreatDoor
