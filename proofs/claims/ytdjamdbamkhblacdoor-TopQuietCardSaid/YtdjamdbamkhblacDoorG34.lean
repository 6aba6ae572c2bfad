/- The walk of kern.New: the new kernel. No condition. What a new kernel reads as: no condition. Scripts of acts: prefixes, order, and what a process reads beside another: plain mathematics. -/
import Derived.Test.YtdjamdbamkhblacDoorG33
namespace Go.Proofs.YtdjamdbamkhblacDoor
open Go.RowKit
structure MadeK (w0:World) (listed:Array Bool) (w:World) (u1 u3 u4 u5 u6 u7:Value):Prop where
 below:Below w0.heap.size w0 w
 lt:w0.heap.size<w.heap.size
 b0:Blk w w0.heap.size 36 #[.slice none 0 0, .slice none 0 0, .slice none 0 0, .slice none 0 0, .slice none 0 0]
 m0:listed.getD 0 true=true→∃ g,u3=sl g 1024∧w0.heap.size<g∧Blk w g 3 zInt
 m1:listed.getD 1 true=true→∃ g,u4=sl g 8∧w0.heap.size<g∧Blk w g 52 zNod
 m2:listed.getD 2 true=true→∃ g,u5=sl g 6∧w0.heap.size<g∧Blk w g 9 zStr
 m3:listed.getD 3 true=true→∃ g,u6=sl g 4∧w0.heap.size<g∧Blk w g 79 zPrc
 m4:listed.getD 4 true=true→u7= .agg #[.slice none 0 0,u3,u4,u5,u6]∧listed.getD 0 true=true∧listed.getD 1 true=true∧listed.getD 2 true=true∧listed.getD 3 true=true
 m5:listed.getD 5 true=true→∃ g,u1= .pointer (some ⟨g,0,none⟩)∧w0.heap.size<g∧Blk w g 36 (if listed.getD 6 true=true then #[.slice none 0 0,u3,u4,u5,u6] else #[.slice none 0 0, .slice none 0 0, .slice none 0 0, .slice none 0 0, .slice none 0 0])
 m6:listed.getD 6 true=true→listed.getD 4 true=true∧listed.getD 5 true=true
theorem MadeK.up {w0 w:World} {l:Array Bool} {u1 u3 u4 u5 u6 u7:Value} (h:MadeK w0 l w u1 u3 u4 u5 u6 u7) (o:Obj):MadeK w0 l (w.alloc o) u1 u3 u4 u5 u6 u7:=by
 have up:∀ {v:Value} {n:Nat} {t:TypeId} {z:Array Value},(∃ g,v=sl g n∧w0.heap.size<g∧Blk w g t z)→∃ g,v=sl g n∧w0.heap.size<g∧Blk (w.alloc o) g t z:=fun ⟨g,a,b,c⟩=>⟨g,a,b,c.alloc o⟩
 exact⟨h.below.alloc h.below.size o,by simp;have:=h.lt;omega,h.b0.alloc o,fun x=>up (h.m0 x),fun x=>up (h.m1 x),fun x=>up (h.m2 x),fun x=>up (h.m3 x),h.m4,fun x=>(h.m5 x).elim fun g ⟨a,b,c⟩=>⟨g,a,b,c.alloc o⟩,h.m6⟩
theorem Bz8 {l:Array Bool} {j:Nat} (h:l.getD j false=true):l.getD j true=true:=by
 rw[Array.getD_eq_getD_getElem?] at h ⊢;cases hj:l[j]? with
 | none=>rfl
 | some b=>rw[hj] at h;exact h
def rowN (es:List Nat):Array Value:=(es.flatMap (fun e=>[Value.bool false,sl e 6])++(List.replicate (4 - es.length) [Value.bool false,Value.slice none 0 0]).flatten).toArray
theorem Pzp (es:List Nat) (h:es.length<4) (e:Nat):(rowN es).setIfInBounds (es.length*2+1) (sl e 6)=rowN (es++ [e]):=by
 match es,h with
 | [],_=>rfl
 | [a],_=>rfl
 | [a,b],_=>rfl
 | [a,b,c],_=>rfl
 | a::b::c::d::r,h=>simp at h;omega
theorem Pzq (w:World) {g:Nat} (hg:g<w.heap.size) (i:Nat) (u:Value) (o:Obj):((w.alloc o).drewN 1).setCell ⟨g,i,none⟩ u=((w.setCell ⟨g,i,none⟩ u).alloc o).drew:=by
 rw[←World.setCell_alloc_past o g i u hg];rfl
theorem made_cell' (z:Array Value) (n i:Nat) (h:i<n):(madeCells z n)[i]? =some (z[i % z.size]!):=by simp[madeCells,h]
theorem Qz4:zPrc=rowN []:=by
 apply Array.ext_getElem?;intro i;rcases Nat.lt_or_ge i 8 with h8|h8
 ·rw[zPrc,made_cell' _ _ _ h8]
  match i,h8 with
  | 0,_=>rfl
  | 1,_=>rfl
  | 2,_=>rfl
  | 3,_=>rfl
  | 4,_=>rfl
  | 5,_=>rfl
  | 6,_=>rfl
  | 7,_=>rfl
 ·rw[Array.getElem?_eq_none (by rw[zPrc,size_madeCells];exact h8),Array.getElem?_eq_none (by show 8≤i;exact h8)]
structure NewS (w0 wx:World) (g g1 g2 g3 g4 k:Nat) (es:List Nat):Prop where
 nk:NewK w0 wx g g1 g2 g3 (sl g4 4)
 lo4:w0.heap.size<g4
 len:es.length=k
 row:Blk wx g4 79 (rowN es)
 ends : ∀ e ∈ es, w0.heap.size < e ∧ Blk wx e 82 zEnd
 nd:es.Pairwise (· ≠ ·)
theorem NewS.next {w0 wr W:World} {g g1 g2 g3 g4 k:Nat} {es:List Nat} (h:NewS w0 wr g g1 g2 g3 g4 k es) (hk:k<4) (hW:Below wr.heap.size wr W) (hE:Blk W wr.heap.size 82 zEnd):
  NewS w0 (W.setCell ⟨g4,k*2+1,none⟩ (sl wr.heap.size 6)) g g1 g2 g3 g4 (k+1) (es++ [wr.heap.size]):=by
 have hlt:w0.heap.size<wr.heap.size:=Nat.lt_trans h.nk.lo h.nk.blk.lt;have up:∀ {q:Nat} {t:TypeId} {cs:Array Value},Blk wr q t cs→t≠79→Blk (W.setCell ⟨g4,k*2+1,none⟩ (sl wr.heap.size 6)) q t cs:=fun {q t cs} hq hne=>(hq.below hW hq.lt).far (p:=⟨g4,k*2+1,none⟩) ((hq.below hW hq.lt).ne_ (h.row.below hW h.row.lt) hne) _
 refine⟨⟨(h.nk.below.trans (hW.mono h.nk.below.size)).setCell (p:=⟨g4,k*2+1,none⟩) (Nat.le_of_lt h.lo4) _,h.nk.lo,h.nk.lo1,h.nk.lo2,h.nk.lo3,up h.nk.blk (by decide),up h.nk.b0 (by decide),up h.nk.b1 (by decide),up h.nk.b2 (by decide),up h.nk.b3 (by decide)⟩,h.lo4,by simp[h.len],?_,fun e he=>?_,?_⟩
 ·have hs:=(h.row.below hW h.row.lt).set_ (k*2+1) (sl wr.heap.size 6)
  have hl:=h.len;subst hl;rw[Pzp es hk] at hs;exact hs
 ·rcases List.mem_append.1 he with he|he
  ·exact⟨(h.ends e he).1,up (h.ends e he).2 (by decide)⟩
  ·obtain rfl:e=wr.heap.size:=by simpa using he
   exact⟨hlt,hE.far (p:=⟨g4,k*2+1,none⟩) (hE.ne_ (h.row.below hW h.row.lt) (by decide)) _⟩
 ·rw[List.pairwise_append]
  refine⟨h.nd,by simp,fun a ha b hb=>?_⟩;obtain rfl:b=wr.heap.size:=by simpa using hb
  exact Nat.ne_of_lt (h.ends a ha).2.lt
theorem Rzg (es:List Nat) (h:es.length<4):(rowN es)[es.length*2+1]? =some (.slice none 0 0):=by
 match es,h with
 | [],_=>rfl
 | [a],_=>rfl
 | [a,b],_=>rfl
 | [a,b,c],_=>rfl
 | a::b::c::d::r,h=>simp at h;omega
theorem NewS.fin {w0 wr:World} {g g1 g2 g3 g4:Nat} {es:List Nat} (h:NewS w0 wr g g1 g2 g3 g4 4 es) (u0 u1 u2 u3 u4:Value):
  NewF w0 (lay5 (wr.setCell ⟨g4,0,none⟩ (.bool true)) w0.heap.size u0 u1 u2 u3 u4) g1 g2 g3 (sl g4 4) (pcs 0 es) es:=by
 have hl:=Azy (wr.setCell ⟨g4,0,none⟩ (.bool true)) w0.heap.size u0 u1 u2 u3 u4;have far:∀ {q:Nat} {t:TypeId} {cs:Array Value},Blk wr q t cs→t≠79→w0.heap.size<q→Blk (lay5 (wr.setCell ⟨g4,0,none⟩ (.bool true)) w0.heap.size u0 u1 u2 u3 u4) q t cs:=fun {q t cs} hq hne hlt=>
  (hq.far (p:=⟨g4,0,none⟩) (hq.ne_ h.row hne) _).grown hl (fun e=>by injection e with e;omega)
 have hrow:Blk (lay5 (wr.setCell ⟨g4,0,none⟩ (.bool true)) w0.heap.size u0 u1 u2 u3 u4) g4 79 (pcs 0 es).toArray:=by
  have h1:=(h.row.set_ 0 (.bool true)).grown hl (fun e=>by injection e with e;have:=h.lo4;omega);have e:(rowN es).setIfInBounds 0 (.bool true)=(pcs 0 es).toArray:=by
   match es,h.len with
   | [a,b,c,d],_=>rfl
  rw[e] at h1;exact h1
 have hpl:(pcs 0 es).length=8:=by
  match es,h.len with
  | [a,b,c,d],_=>rfl
 refine⟨Ezw (h.nk.below.setCell (p:=⟨g4,0,none⟩) (Nat.le_of_lt h.lo4) _) u0 u1 u2 u3 u4,far h.nk.b1 (by decide) h.nk.lo1,far h.nk.b2 (by decide) h.nk.lo2,far h.nk.b3 (by decide) h.nk.lo3,⟨by rw[hpl], .inr ⟨g4,4,(pcs 0 es).toArray,rfl,Nat.le_of_lt h.lo4,hrow,by omega,by simp[maxLen],by simp[hpl],?_⟩⟩,fun e he=>far (h.ends e he).2 (by decide) (h.ends e he).1,h.nk.lo1,h.nk.lo2,h.nk.lo3,fun e he=>(h.ends e he).1,h.nd⟩;exact List.take_of_length_le (by simp[hpl])
set_option maxRecDepth 100000 in
set_option maxHeartbeats 4000000 in
theorem Qz9 (w:World):Calls Tryd.prog 39 #[] w fun e w'=>∃ g1 g2 g3 V es,e= .returned (.agg #[.slice none 0 0,sl g1 1024,sl g2 8,sl g3 6,V])∧NewF w w' g1 g2 g3 V (pcs 0 es) es∧es.length=4:=by
 have m1:=Szf;have m2:=Szg;have m3:=Szi;have m4:=Sze;have m5:=Szh;go_enter Tryd.func39,Tryd.ntmps39;go_upto_region 1 with fail
 go_cut [1] (fun u wx=>∃ g g1 g2 g3 g4,u= .pointer (some ⟨g,0,none⟩)∧NewK w wx g g1 g2 g3 (sl g4 4)∧w.heap.size<g4∧Blk wx g4 79 zPrc)
 case first=>
  refine Azj (fun listed a W=>∃ u1 u3 u4 u5 u6 u7,MadeK w listed W u1 u3 u4 u5 u6 u7∧a=⟨#[.pointer (some ⟨w.heap.size,0,none⟩),u1,undef,u3,u4,u5,u6,u7,undef,undef,undef,undef,undef,undef,undef,undef,undef,undef,undef,undef,undef,undef,undef,undef,undef,undef],[]⟩) (by kernel_rfl) (Ez9 (by kernel_rfl)) ?start ?step ?fin
  case start=>
   refine⟨undef,undef,undef,undef,undef,undef,⟨((Below.refl w.heap.size w).alloc (Nat.le_refl _) _).drew,by simp,Blk.drew (Blk.new w _ _),fun h=>absurd h (by decide),fun h=>absurd h (by decide),fun h=>absurd h (by decide),fun h=>absurd h (by decide),fun h=>absurd h (by decide),fun h=>absurd h (by decide),fun h=>absurd h (by decide)⟩,rfl⟩
  case step=>
   intro i o ho listed a W hl haf hI K hK;obtain⟨u1,u3,u4,u5,u6,u7,hM,rfl⟩:=hI;have hi:i<7:=(Array.getElem?_eq_some_iff.1 ho).1;have h7:i=0∨i=1∨i=2∨i=3∨i=4∨i=5∨i=6:=by omega
   rcases h7 with rfl|rfl|rfl|rfl|rfl|rfl|rfl
   ·have ho':=Option.some.inj ho
    subst ho';have h4:listed.getD 4 true=false:=by
     rw[←Bool.not_eq_true];intro e;have:=(hM.m4 e).2.1;rw[hl] at this;cases this
    have h6:listed.getD 6 true=false:=by
     rw[←Bool.not_eq_true];intro e;have:=(hM.m6 e).1;rw[h4] at this;cases this
    have HM:=Lib.hid hM;have H4:=Lib.hid h4;have H6:=Lib.hid h6;clear hM h4 h6;go_simp;have h1:=HM.out.up (.cells zInt 3);have hM:=HM.out;have h4:=H4.out;have h6:=H6.out;exact hK _ _ ⟨_,_,_,_,_,_, { h1 with
     m0:=fun _=>⟨_,rfl,hM.lt,Blk.new W _ _⟩
     m1:=fun x=>h1.m1 (by simpa [Az2] using x)
     m2:=fun x=>h1.m2 (by simpa [Az2] using x)
     m3:=fun x=>h1.m3 (by simpa [Az2] using x)
     m4:=fun x=>absurd (show listed.getD 4 true=true by simpa [Az2] using x) (by rw[h4];simp)
     m5:=fun x=>by
      have:=h1.m5 (by simpa [Az2] using x);simp only[h6,Az2,Bool.or_false,Bool.false_eq_true,if_false] at this ⊢;exact this
     m6:=fun x=>absurd (show listed.getD 6 true=true by simpa [Az2] using x) (by rw[h6];simp) },rfl⟩
   ·have ho':=Option.some.inj ho
    subst ho';have h4:listed.getD 4 true=false:=by
     rw[←Bool.not_eq_true];intro e;have:=(hM.m4 e).2.2.1;rw[hl] at this;cases this
    have h6:listed.getD 6 true=false:=by
     rw[←Bool.not_eq_true];intro e;have:=(hM.m6 e).1;rw[h4] at this;cases this
    have HM:=Lib.hid hM;have H4:=Lib.hid h4;have H6:=Lib.hid h6;clear hM h4 h6;go_simp;have h1:=HM.out.up (.cells zNod 52);have hM:=HM.out;have h4:=H4.out;have h6:=H6.out;exact hK _ _ ⟨_,_,_,_,_,_, { h1 with
     m0:=fun x=>h1.m0 (by simpa [Az2] using x)
     m1:=fun _=>⟨_,rfl,hM.lt,Blk.new W _ _⟩
     m2:=fun x=>h1.m2 (by simpa [Az2] using x)
     m3:=fun x=>h1.m3 (by simpa [Az2] using x)
     m4:=fun x=>absurd (show listed.getD 4 true=true by simpa [Az2] using x) (by rw[h4];simp)
     m5:=fun x=>by
      have:=h1.m5 (by simpa [Az2] using x);simp only[h6,Az2,Bool.or_false,Bool.false_eq_true,if_false] at this ⊢;exact this
     m6:=fun x=>absurd (show listed.getD 6 true=true by simpa [Az2] using x) (by rw[h6];simp) },rfl⟩
   ·have ho':=Option.some.inj ho
    subst ho';have h4:listed.getD 4 true=false:=by
     rw[←Bool.not_eq_true];intro e;have:=(hM.m4 e).2.2.2.1;rw[hl] at this;cases this
    have h6:listed.getD 6 true=false:=by
     rw[←Bool.not_eq_true];intro e;have:=(hM.m6 e).1;rw[h4] at this;cases this
    have HM:=Lib.hid hM;have H4:=Lib.hid h4;have H6:=Lib.hid h6;clear hM h4 h6;go_simp;have h1:=HM.out.up (.cells zStr 9);have hM:=HM.out;have h4:=H4.out;have h6:=H6.out;exact hK _ _ ⟨_,_,_,_,_,_, { h1 with
     m0:=fun x=>h1.m0 (by simpa [Az2] using x)
     m1:=fun x=>h1.m1 (by simpa [Az2] using x)
     m2:=fun _=>⟨_,rfl,hM.lt,Blk.new W _ _⟩
     m3:=fun x=>h1.m3 (by simpa [Az2] using x)
     m4:=fun x=>absurd (show listed.getD 4 true=true by simpa [Az2] using x) (by rw[h4];simp)
     m5:=fun x=>by
      have:=h1.m5 (by simpa [Az2] using x);simp only[h6,Az2,Bool.or_false,Bool.false_eq_true,if_false] at this ⊢;exact this
     m6:=fun x=>absurd (show listed.getD 6 true=true by simpa [Az2] using x) (by rw[h6];simp) },rfl⟩
   ·have ho':=Option.some.inj ho
    subst ho';have h4:listed.getD 4 true=false:=by
     rw[←Bool.not_eq_true];intro e;have:=(hM.m4 e).2.2.2.2;rw[hl] at this;cases this
    have h6:listed.getD 6 true=false:=by
     rw[←Bool.not_eq_true];intro e;have:=(hM.m6 e).1;rw[h4] at this;cases this
    have HM:=Lib.hid hM;have H4:=Lib.hid h4;have H6:=Lib.hid h6;clear hM h4 h6;go_simp;have h1:=HM.out.up (.cells zPrc 79);have hM:=HM.out;have h4:=H4.out;have h6:=H6.out;exact hK _ _ ⟨_,_,_,_,_,_, { h1 with
     m0:=fun x=>h1.m0 (by simpa [Az2] using x)
     m1:=fun x=>h1.m1 (by simpa [Az2] using x)
     m2:=fun x=>h1.m2 (by simpa [Az2] using x)
     m3:=fun _=>⟨_,rfl,hM.lt,Blk.new W _ _⟩
     m4:=fun x=>absurd (show listed.getD 4 true=true by simpa [Az2] using x) (by rw[h4];simp)
     m5:=fun x=>by
      have:=h1.m5 (by simpa [Az2] using x);simp only[h6,Az2,Bool.or_false,Bool.false_eq_true,if_false] at this ⊢;exact this
     m6:=fun x=>absurd (show listed.getD 6 true=true by simpa [Az2] using x) (by rw[h6];simp) },rfl⟩
   ·have ho':=Option.some.inj ho
    subst ho';simp[Region.binds] at haf;obtain⟨q0,q1,q2,q3⟩:=haf;have p0:=Bz8 (l:=listed) (j:=0) (by simpa using q0);have p1:=Bz8 (l:=listed) (j:=1) (by simpa using q1);have p2:=Bz8 (l:=listed) (j:=2) (by simpa using q2);have p3:=Bz8 (l:=listed) (j:=3) (by simpa using q3);have h6:listed.getD 6 true=false:=by
     rw[←Bool.not_eq_true];intro e;have:=(hM.m6 e).1;rw[hl] at this;cases this
    obtain⟨g1,rfl,_,_⟩:=hM.m0 p0;obtain⟨g2,rfl,_,_⟩:=hM.m1 p1;obtain⟨g3,rfl,_,_⟩:=hM.m2 p2;obtain⟨g4,rfl,_,_⟩:=hM.m3 p3;have HM:=Lib.hid hM;have H6:=Lib.hid h6;have P:=Lib.hid (And.intro p0 (And.intro p1 (And.intro p2 p3)));clear hM h6 q0 q1 q2 q3 p0 p1 p2 p3;unfold sl;go_simp;have hM:=HM.out;have h6:=H6.out;obtain⟨p0,p1,p2,p3⟩:=P.out;exact hK _ _ ⟨_,_,_,_,_,_, { hM with
     m0:=fun x=>hM.m0 (by simpa [Az2] using x)
     m1:=fun x=>hM.m1 (by simpa [Az2] using x)
     m2:=fun x=>hM.m2 (by simpa [Az2] using x)
     m3:=fun x=>hM.m3 (by simpa [Az2] using x)
     m4:=fun _=>⟨rfl,by rw[Az2,p0];rfl,by rw[Az2,p1];rfl,by rw[Az2,p2];rfl,by rw[Az2,p3];rfl⟩
     m5:=fun x=>by
      have:=hM.m5 (by simpa [Az2] using x);simp only[h6,Az2,Bool.or_false,Bool.false_eq_true,if_false] at this ⊢;exact this
     m6:=fun x=>absurd (show listed.getD 6 true=true by simpa [Az2] using x) (by rw[h6];simp) },rfl⟩
   ·have ho':=Option.some.inj ho
    subst ho';have h6:listed.getD 6 true=false:=by
     rw[←Bool.not_eq_true];intro e;have:=(hM.m6 e).2;rw[hl] at this;cases this
    have HM:=Lib.hid hM;have H6:=Lib.hid h6;clear hM h6;go_simp;have h1:=HM.out.up (.cells #[.slice none 0 0, .slice none 0 0, .slice none 0 0, .slice none 0 0, .slice none 0 0] 36);have hM:=HM.out;have h6:=H6.out;exact hK _ _ ⟨_,_,_,_,_,_, { h1 with
     m0:=fun x=>h1.m0 (by simpa [Az2] using x)
     m1:=fun x=>h1.m1 (by simpa [Az2] using x)
     m2:=fun x=>h1.m2 (by simpa [Az2] using x)
     m3:=fun x=>h1.m3 (by simpa [Az2] using x)
     m4:=fun x=>by have:=h1.m4 (by simpa [Az2] using x);simpa [Az2] using this
     m5:=fun _=>⟨_,rfl,hM.lt,by simp only[Az2,h6];exact Blk.new W _ _⟩
     m6:=fun x=>absurd (show listed.getD 6 true=true by simpa [Az2] using x) (by rw[h6];simp) },rfl⟩
   ·have ho':=Option.some.inj ho
    subst ho';simp[Region.binds] at haf;obtain⟨q5,q4,q0,q1,q2,q3,_,_⟩:=haf;have p0:=Bz8 (l:=listed) (j:=0) (by simpa using q0);have p1:=Bz8 (l:=listed) (j:=1) (by simpa using q1);have p2:=Bz8 (l:=listed) (j:=2) (by simpa using q2);have p3:=Bz8 (l:=listed) (j:=3) (by simpa using q3);have p4:=Bz8 (l:=listed) (j:=4) (by simpa using q4);have p5:=Bz8 (l:=listed) (j:=5) (by simpa using q5);obtain⟨g1,rfl,l1,b1⟩:=hM.m0 p0;obtain⟨g2,rfl,l2,b2⟩:=hM.m1 p1;obtain⟨g3,rfl,l3,b3⟩:=hM.m2 p2;obtain⟨g4,rfl,l4,b4⟩:=hM.m3 p3;obtain⟨rfl,_⟩:=hM.m4 p4;obtain⟨g,rfl,lg,bg⟩:=hM.m5 p5;rw[if_neg (by rw[hl];simp)] at bg;obtain⟨c0,c1,c2,c3,c4,f0,f1,f2,f3,f4, -⟩:=bg.a5;simp at c0 c1 c2 c3 c4;have HM:=Lib.hid hM;have P:=Lib.hid (And.intro p0 (And.intro p1 (And.intro p2 (And.intro p3 (And.intro p4 p5)))));have HB:=Lib.hid (And.intro bg (And.intro b1 (And.intro b2 (And.intro b3 b4))));clear hM q0 q1 q2 q3 q4 q5 p0 p1 p2 p3 p4 p5 bg b1 b2 b3 b4;unfold sl;go_simp;have hM:=HM.out;obtain⟨p0,p1,p2,p3,p4,p5⟩:=P.out;obtain⟨bg,b1,b2,b3,b4⟩:=HB.out;have far:∀ {q:Nat} {t:TypeId} {cs:Array Value} (u0 u1 u2 u3 u4:Value),Blk W q t cs→q≠g→Blk (lay5 W g u0 u1 u2 u3 u4) q t cs:=fun u0 u1 u2 u3 u4 hq hne=>hq.grown (Azy W g u0 u1 u2 u3 u4) (fun e=>hne (by injection e))
    have hlay:=Azy W g (.slice none 0 0) (sl g1 1024) (sl g2 8) (sl g3 6) (sl g4 4);exact hK _ (lay5 W g (.slice none 0 0) (sl g1 1024) (sl g2 8) (sl g3 6) (sl g4 4)) ⟨_,_,_,_,_,_, {
     below:=hM.below.trans ⟨hlay.os,hlay.tape,hlay.output,hlay.size,fun q hq=>hlay.block q (Nat.lt_of_lt_of_le hq hM.below.size) (fun e=>by injection e with e;omega)⟩
     lt:=Nat.lt_of_lt_of_le hM.lt hlay.size
     b0:=far _ _ _ _ _ hM.b0 (by omega)
     m0:=fun _=>⟨g1,rfl,l1,far _ _ _ _ _ b1 (b1.ne_ bg (by decide))⟩
     m1:=fun _=>⟨g2,rfl,l2,far _ _ _ _ _ b2 (b2.ne_ bg (by decide))⟩
     m2:=fun _=>⟨g3,rfl,l3,far _ _ _ _ _ b3 (b3.ne_ bg (by decide))⟩
     m3:=fun _=>⟨g4,rfl,l4,far _ _ _ _ _ b4 (b4.ne_ bg (by decide))⟩
     m4:=fun _=>⟨rfl,by rw[Az2,p0];simp,by rw[Az2,p1];simp,by rw[Az2,p2];simp,by rw[Az2,p3];simp⟩
     m5:=fun _=>⟨g,rfl,lg,by rw[if_pos (by rw[Az2];simp)];exact bg.lay5 rfl _ _ _ _ _⟩
     m6:=fun _=>⟨by rw[Az2,p4];simp,by rw[Az2,p5];simp⟩ },rfl⟩
  case fin=>
   intro listed a W hall hI;obtain⟨u1,u3,u4,u5,u6,u7,hM,rfl⟩:=hI;obtain⟨g1,rfl,l1,b1⟩:=hM.m0 (hall 0 (by decide));obtain⟨g2,rfl,l2,b2⟩:=hM.m1 (hall 1 (by decide));obtain⟨g3,rfl,l3,b3⟩:=hM.m2 (hall 2 (by decide));obtain⟨g4,rfl,l4,b4⟩:=hM.m3 (hall 3 (by decide));obtain⟨rfl,_⟩:=hM.m4 (hall 4 (by decide));obtain⟨g,rfl,lg,bg⟩:=hM.m5 (hall 5 (by decide));rw[if_pos (hall 6 (by decide))] at bg;go_wp2_with fail;go_meet;exact⟨g,g1,g2,g3,g4,rfl,⟨hM.below,lg,l1,l2,l3,bg,hM.b0,b1,b2,b3⟩,l4,b4⟩
 case rest=>
  obtain⟨g,g1,g2,g3,g4,rfl,hN,hl4,hb4⟩:=hcut;have c4:=hN.blk.cell 4;simp[sl] at c4;have HN:=Lib.hid hN;have HB4:=Lib.hid hb4;clear hN hb4;go_wp2;go_loopw [2,11] (fun _ i wr=>Cnt 4 i fun k=>∃ es,NewS w wr g g1 g2 g3 g4 k es) (fun _ i _=>4 - (intOf i).toNat)
  case atStart=>
   have e0:zPrc=rowN []:=Qz4;exact⟨0,Nat.zero_le _,rfl,[],HN.out,hl4,rfl,by rw[←e0];exact HB4.out,by simp,List.Pairwise.nil⟩
  case round=>
   obtain⟨k,hk,rfl,es,hS⟩:=hrel;have c4:=hS.nk.blk.cell 4;simp[sl] at c4;have HS:=Lib.hid hS;clear hS;by_cases hlt:k<4
   ·have r0:=Rzg es (by have:=HS.out.len;omega)
    rw[HS.out.len] at r0;have r1:=(HS.out.row.cell (k*2+1)).trans r0;clear r0;have f1:=HS.out.row.frozen (k*2+1);have hg1:=HS.out.nk.blk.lt;have hg2:=HS.out.row.lt;have hg3:g<wr.heap.size+1:=by omega
    have hg4:g4<wr.heap.size+1:=by omega
    go_wp2_with fail;go_region
    all_goals
     go_wp2;have hN2:=HS.out.next hlt (Below.drewN' ((Below.refl wr.heap.size wr).alloc (Nat.le_refl _) (.cells zEnd 82)) 1) (Blk.new wr _ _);rw[show ((wr.alloc (.cells zEnd 82)).drewN 1).setCell ⟨g4,k*2+1,none⟩ (sl wr.heap.size 6)=((wr.setCell ⟨g4,k*2+1,none⟩ (sl wr.heap.size 6)).alloc (.cells zEnd 82)).drew from Pzq wr hg2 _ _ _] at hN2;go_roundw
     case rel=>exact⟨k+1,by omega,by go_num,_,hN2⟩
     case measure=>simp[intOf];omega
   ·obtain rfl:k=4:=by omega
    match es,HS.out.len,HS with
    | [e0,e1,e2,e3],_,HS=>
      have HR:Hid (Blk wr g4 79 #[.bool false,sl e0 6, .bool false,sl e1 6, .bool false,sl e2 6, .bool false,sl e3 6]):=HS.out.row;obtain⟨c0,c1,c2,c3, -⟩:=HS.out.nk.blk.a4;obtain⟨k0, -,k1, -⟩:=HR.out.a2;have b0:=HS.out.nk.b0;obtain⟨d0,d1,d2,d3,d4,x0,x1,x2,x3,x4, -⟩:=b0.a5;simp at c0 c1 c2 c3 k0 d0 d1 d2 d3 d4;simp only[sl] at c1 c2 c3;have n1:=b0.ne_ HR.out (by decide);have n2:=HS.out.nk.blk.ne_ HR.out (by decide);have n3:=HS.out.nk.lo;clear b0;go_wp2;refine bodyPost_ret (v:= .agg #[.slice none 0 0,sl g1 1024,sl g2 8,sl g3 6,sl g4 4]) ?_ rfl ⟨g1,g2,g3,sl g4 4,_,rfl,HS.out.fin _ _ _ _ _,rfl⟩;simp[results,Tryd.results39,go_sem,sl,d0,d1,d2,d3,d4]
def newKr:Krn:=⟨[],List.replicate 1024 0,List.replicate 8 default,List.replicate 6 ⟨#[]⟩,⟨true,List.replicate 6 default⟩::List.replicate 3 ⟨false,List.replicate 6 default⟩⟩
theorem made_cell (z:Array Value) (n i:Nat) (h:i<n):(madeCells z n)[i]? =some (z[i % z.size]!):=by simp[madeCells,h]
theorem Nzp {w:World} {g size n m:Nat} {t:TypeId} {z:Array Value} {xs:List Value} (h:Blk w g t (madeCells z (n*size))) (hl:xs.length=n*size) (hx:∀ i,i<n*size→xs[i]? =some (z[i % z.size]!)) (hm:n=m):Rd w w.heap.size size (some ⟨g,0,none⟩) m xs:=by
 subst hm;refine⟨hl,fun _=>⟨g,0,rfl,h.lt,fun j u hu=>?_⟩⟩;have hj:j<n*size:=by rw[←hl];exact(List.getElem?_eq_some_iff.1 hu).1
 rw[Nat.zero_add,h.cell,made_cell _ _ _ hj, ←hx j hj,hu]
theorem Pzc {w:World} {e:Nat} (h:Blk w e 82 zEnd):RdE w w.heap.size (some ⟨e,0,none⟩) (List.replicate 6 default):=by
 refine RdE.of (Nzp (n:=6) (size:=3) h rfl (fun i hi=>?_) (by simp));have:i=0∨i=1∨i=2∨i=3∨i=4∨i=5∨i=6∨i=7∨i=8∨i=9∨i=10∨i=11∨i=12∨i=13∨i=14∨i=15∨i=16∨i=17:=by omega
 rcases this with h|h|h|h|h|h|h|h|h|h|h|h|h|h|h|h|h|h<;>subst h<;>rfl
theorem Nzb {w:World} {g:Nat} (h:Blk w g 52 zNod):RdD w w.heap.size (some ⟨g,0,none⟩) (List.replicate 8 default):=by
 refine RdD.of (Nzp (n:=8) (size:=4) h rfl (fun i hi=>?_) (by simp));have e:∀ j:Nat,j<8→(Azs (List.replicate 8 default))[j*4]? =some (.string ⟨#[]⟩)∧(Azs (List.replicate 8 default))[j*4+1]? =some (.int .i64 0)∧(Azs (List.replicate 8 default))[j*4+2]? =some (.string ⟨#[]⟩)∧(Azs (List.replicate 8 default))[j*4+3]? =some (.int .i64 0):=fun j hj=>by
  have:=Dzt (List.replicate 8 default) j (by simpa using hj);simp only[List.getElem_replicate] at this;exact this
 obtain⟨e0,e1,e2,e3⟩:=e (i / 4) (by omega);have:i=i / 4*4∨i=i / 4*4+1∨i=i / 4*4+2∨i=i / 4*4+3:=by omega
 have hm:i % 4=i - i / 4*4:=by omega
 show _=some ((#[.string ⟨#[]⟩, .int .i64 0, .string ⟨#[]⟩, .int .i64 0]:Array Value)[i % 4]!);rcases this with h|h|h|h
 ·rw[show i % 4=0 by omega,h,e0];rfl
 ·rw[show i % 4=1 by omega,h,e1];rfl
 ·rw[show i % 4=2 by omega,h,e2];rfl
 ·rw[show i % 4=3 by omega,h,e3];rfl
theorem Nzc {w:World} {g:Nat} (h:Blk w g 3 zInt):RdN w w.heap.size (some ⟨g,0,none⟩) (List.replicate 1024 0):=fun _=>⟨g,0,rfl,h.lt,fun k hk=>by
 have hk':k<1024:=by rw[List.length_replicate] at hk;exact hk
 rw[Nat.zero_add,h.cell,zInt,made_cell _ _ _ hk',List.getElem_replicate];show some ((#[.int .i64 0]:Array Value)[k % 1]!)=_;rw[Nat.mod_one];rfl⟩
theorem Pzd {w:World} {g:Nat} (h:Blk w g 9 zStr):RdS w w.heap.size (some ⟨g,0,none⟩) (List.replicate 6 ⟨#[]⟩):=fun _=>⟨g,0,rfl,h.lt,fun k hk=>by
 have hk':k<6:=by rw[List.length_replicate] at hk;exact hk
 rw[Nat.zero_add,h.cell,zStr,made_cell _ _ _ hk',List.getElem_replicate];show some ((#[.string ⟨#[]⟩]:Array Value)[k % 1]!)=_;rw[Nat.mod_one];rfl⟩
theorem NewF.krn {w0 w:World} {g1 g2 g3:Nat} {V:Value} {es:List Nat} (h:NewF w0 w g1 g2 g3 V (pcs 0 es) es) (h4:es.length=4):
  ∃ a:KA, #[.slice none 0 0,sl g1 1024,sl g2 8,sl g3 6,V]=a.cells newKr∧KrnAt w w.heap.size a newKr:=by
 have ho:=h.own;obtain⟨A,c,rfl⟩:=Az5 ho;have hr:=Rd.of_own ho;refine⟨⟨none,0,some ⟨g1,0,none⟩,1024,some ⟨g2,0,none⟩,8,some ⟨g3,0,none⟩,6,A,c⟩,by simp only[KA.cells,newKr,sl,List.length_replicate,List.length_cons,List.length_nil],⟨fun hl=>absurd hl (by show ¬ 0<0;omega),Nzc h.b1,Nzb h.b2,Pzd h.b3,fun _=>?_,by show 0*64≤_;omega,by simp only[newKr,List.length_replicate];omega,by simp only[newKr,List.length_replicate];omega,by simp only[newKr,List.length_replicate];omega,by simp only[newKr,List.length_replicate,List.length_cons];omega,fun _=>⟨rfl,rfl⟩,fun e=>(nomatch e),fun e=>(nomatch e),fun e=>(nomatch e),Czw ho⟩⟩;obtain⟨b,o,e,hb,hc⟩:=hr.2 (by omega);refine⟨b,o,e,hb,fun k hk=>?_⟩
 match es,h4,h,hc with
 | [e0,e1,e2,e3],_,h,hc=>
   have pe:∀ e∈ [e0,e1,e2,e3],∀ bl:Bool,PrcAt w w.heap.size (some ⟨e,0,none⟩) 6 ⟨bl,List.replicate 6 default⟩:=fun e he bl=>⟨Pzc (h.ends e he),by show 6*24≤_;omega,fun x=>(nomatch x)⟩
   have hk4:k<4:=hk
   match k,hk4 with
   | 0,_=>exact⟨_,_,hc 0 _ rfl,hc 1 _ rfl,pe e0 (by simp) true⟩
   | 1,_=>exact⟨_,_,hc 2 _ rfl,hc 3 _ rfl,pe e1 (by simp) false⟩
   | 2,_=>exact⟨_,_,hc 4 _ rfl,hc 5 _ rfl,pe e2 (by simp) false⟩
   | 3,_=>exact⟨_,_,hc 6 _ rfl,hc 7 _ rfl,pe e3 (by simp) false⟩
theorem Hzl:∀ (l:List Akt) (k:Krn),(runK k l).2.length=l.length
 | [],_=>rfl
 | a::r,k=>by
   rw[runK];split
   ·simp[Hzl r]
   ·simp[Hzl r]
theorem Hzk:∀ (l r:List Akt) (k:Krn),runK k (l++r)=((runK (runK k l).1 r).1,(runK k l).2++(runK (runK k l).1 r).2)
 | [],r,k=>by simp[runK]
 | a::l,r,k=>by
   rw[List.cons_append,runK,runK];split
   ·rw[Hzk l r];rfl
   ·rw[Hzk l r];rfl
theorem Sz4 {k:Krn} (h:KOk k) {a:Akt} (ha:1≤a.kind∧a.kind≤11):doE k a=0:=by
 unfold doE;rw[if_pos ((Dzg k).2 h),if_neg (by omega)]
theorem Ozn {k:Krn} {a:Akt} (h:doE k a=0):KOk k∧1≤a.kind∧a.kind≤11:=by
 unfold doE at h;by_cases h1:Bz3 k=0
 ·rw[if_pos h1] at h
  by_cases h2:a.kind<1∨11<a.kind
  ·rw[if_pos h2] at h;cases h
  ·exact⟨(Dzg k).1 h1,by omega⟩
 ·rw[if_neg h1] at h;exact absurd h h1
theorem Jzj:∀ (l:List Akt) {k:Krn},KOk k→KOk (runK k l).1
 | [],_,h=>h
 | a::r,k,h=>by
   rw[runK];split
   ·rename_i he
    exact Jzj r (Ozp h a (Ozn he).2)
   ·exact Jzj r h
theorem Rz3:KOk newK:=(Dzg _).1 Lze
theorem Gz7 {k:Krn} (h:KOk k) {a:Akt} (ha:1≤a.kind∧a.kind≤11) (r:List Akt):runK k (a::r)=((runK (doK k a).1 r).1,(doK k a).2::(runK (doK k a).1 r).2):=by
 rw[runK,if_pos (Sz4 h ha)]
def e6 (l:List Opn):List Opn:=l++List.replicate (6 - l.length) default
def fS:ByteArray:=⟨#[102]⟩
end Go.Proofs.YtdjamdbamkhblacDoor
