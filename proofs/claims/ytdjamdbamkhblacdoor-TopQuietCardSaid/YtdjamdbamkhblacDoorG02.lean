/- Trusted code keeps to its region, and what it does hangs on its region alone: plain mathematics. What is made of plain code does what the plain code does, as far as it stays in its region: plain mathematics. What a check of code that finds nothing says: plain mathematics. -/
import Derived.Test.YtdjamdbamkhblacDoorG01
namespace Go.Proofs.YtdjamdbamkhblacDoor
structure Trusted (l:List Ins):Prop where
 code:Fz4 l
 last:∀ k (h:k<l.length),k+1=l.length→endB l[k]=true
 each:∀ k (h:k<l.length),badB l.length l[k] (l.getD (k+1) default)=false
theorem Nzj (r y:Nat) (hy:y<64):y |||64*r=64*r+y:=by
 have h:=Nat.shiftLeft_add_eq_or_of_lt (i:=6) (b:=y) hy r;rw[Nat.shiftLeft_eq,Nat.mul_comm] at h;rw[Nat.or_comm];exact h.symm
theorem or_base' (r x:Nat) (h1:64*r≤x) (h2:x≤64*r+63):x |||64*r=x:=by
 have h:=Nzj r (x - 64*r) (by omega);have e:x=64*r+(x - 64*r):=by omega
 rw[Nat.or_comm] at h;rw[e, ←h,Nat.or_comm, ←Nat.or_assoc,Nat.or_self]
structure Keeps (r:Nat) (l:List Ins) (s:Mc):Prop where
 ok:McOk s
 pos:s.pos<l.length
 back:∀ p∈s.back,p<l.length
 r5:s.regs.getD 5 0=64*r
 r6:s.regs.getD 6 0=63
 r4:(64*r≤s.regs.getD 4 0∧s.regs.getD 4 0≤64*r+63)∨(s.regs.getD 4 0≤63∧sndB (l.getD s.pos default)=true)
 mem:s.mem.length=1024
theorem Cz5 (l:List Nat) (k j v:Nat):(l.set k v).getD j 0=if k=j∧j<l.length then v else l.getD j 0:=by
 simp only[List.getD_eq_getElem?_getD,List.getElem?_set];by_cases h:k=j
 ·subst h
  by_cases h2:k<l.length
  ·simp[h2]
  ·simp[h2]
 ·simp[h]
theorem Gzj {n:Nat} {i j:Ins} (h:badB n i j=false):
  (1≤i.op→i.op≤8→i.a≠5∧i.a≠6)∧(1≤i.op→i.op≤8→i.a=4→¬ (i.op=5∧i.a=4∧i.b=4∧i.c=5)→(i.op=4∧i.a=4∧i.c=6)∧(j.op=5∧j.a=4∧j.b=4∧j.c=5))∧
  ((i.op=8∨i.op=9)→i.b=4)∧((i.op=10∨i.op=11∨i.op=12)→i.c<n):=by
 simp only[badB,wrB,fstB,sndB,jmpB,Bool.or_eq_false_iff,Bool.and_eq_false_iff,Bool.not_eq_false',decide_eq_false_iff_not,decide_eq_true_eq,beq_eq_false_iff_ne,ne_eq,Bool.and_eq_true,bne_eq_false_iff_eq] at h;obtain⟨⟨⟨b1,b2⟩,b3⟩,b4⟩:=h;refine⟨fun h1 h2=>?_,fun h1 h2 h3 h5=>?_,fun h1=>?_,fun h1=>?_⟩
 ·rcases b1 with b1|b1
  ·exact absurd ⟨h1,h2⟩ b1
  ·exact b1
 ·rcases b2 with((b2|b2)|b2)|b2
  ·exact absurd ⟨h1,h2⟩ b2
  ·exact absurd h3 b2
  ·exact absurd b2 h5
  ·exact b2
 ·rcases b3 with b3|b3
  ·omega
  ·exact b3
 ·rcases b4 with b4|b4
  ·exact absurd h1 b4
  ·omega
set_option maxHeartbeats 1000000 in
theorem Lzt {r:Nat} {l:List Ins} {s:Mc} (hr:r<16) (ht:Trusted l) (h:Keeps r l s):
  (step l s).2≠3∧((step l s).2=0→Keeps r l (step l s).1)∧∀ j,j<64*r∨64*r+64≤j→(step l s).1.mem.getD j 0=s.mem.getD j 0:=by
 have hok:=step_ok (s:=s) ht.code h.ok;have hml:(step l s).1.mem.length=1024:=step_mem.trans h.mem;have hpos:=h.pos;have hin:l[s.pos]? =some l[s.pos]:=List.getElem?_eq_getElem hpos;obtain⟨f1,f2,f3,f4⟩:=Gzj (ht.each s.pos hpos);have hlast:=ht.last s.pos hpos;have hgd:l.getD s.pos default=l[s.pos]:=by rw[List.getD_eq_getElem?_getD,hin];rfl
 have h4:=h.r4;rw[hgd] at h4;have hI:=ht.code _ (List.getElem_mem hpos);have hnext:¬ (l[s.pos].op=10∨l[s.pos].op=13∨l[s.pos].op=15)→s.pos+1<l.length:=fun he=>by
  rcases Nat.lt_or_ge (s.pos+1) l.length with h1|h1
  ·exact h1
  ·have:=hlast (by omega)
   simp only[endB,decide_eq_true_eq] at this;exact absurd this he
 have hlen8:=h.ok.regs;have hm:=h.mem;clear hlast
 revert hok hml
 unfold step;rw[hin];generalize hi:l[s.pos]=i at*;generalize hj:l.getD (s.pos+1) default=j at*;intro hok hml;simp only at hok hml ⊢;have hsn:sndB i=true↔(i.op=5∧i.a=4∧i.b=4∧i.c=5):=by simp[sndB]
 have hsj:sndB j=true↔(j.op=5∧j.a=4∧j.b=4∧j.c=5):=by simp[sndB]
 rw[hsn] at h4;have ha0:=hI.a0;have hc:=hI.c0;have h45:i.op≠5→(64*r≤s.regs.getD 4 0∧s.regs.getD 4 0≤64*r+63):=fun h5=>by
  rcases h4 with h4|h4
  ·exact h4
  ·exact absurd h4.2.1 h5
 by_cases o8:i.op=8
 ·have hb:i.b=4:=f3 (.inl o8)
  have h4':=h45 (by omega);have n1:=hnext (by omega);have a56:=f1 (by omega) (by omega);have a4:i.a≠4:=fun e=>by have:=(f2 (by omega) (by omega) e (by omega)).1.1;omega
  clear f1 f2 f3 f4 h4 h45 hnext;have hx:rg s i.b=s.regs.getD 4 0:=by unfold rg;rw[hb];rfl
  have hlt:rg s i.b<s.mem.length:=by rw[hx,hm];omega
  rw[if_pos o8,if_pos hlt] at hok hml ⊢;refine⟨by simp,fun _=>⟨hok,n1,h.back,?_,?_,?_,hml⟩,fun _ _=>rfl⟩
  ·show (s.regs.set _ _).getD 5 0=_
   rw[Cz5,if_neg (by omega)];exact h.r5
  ·show (s.regs.set _ _).getD 6 0=_
   rw[Cz5,if_neg (by omega)];exact h.r6
  ·left
   show _≤(s.regs.set _ _).getD 4 0∧(s.regs.set _ _).getD 4 0≤_;rw[Cz5,if_neg (by omega)];exact h4'
 by_cases o9:i.op=9
 ·have hb:i.b=4:=f3 (.inr o9)
  have h4':=h45 (by omega);have n1:=hnext (by omega);clear f1 f2 f3 f4 h4 h45 hnext;have hx:rg s i.b=s.regs.getD 4 0:=by unfold rg;rw[hb];rfl
  have hlt:rg s i.b<s.mem.length:=by rw[hx,hm];omega
  rw[if_neg o8,if_pos o9,if_pos hlt] at hok hml ⊢;refine⟨by simp,fun _=>⟨hok,n1,h.back,h.r5,h.r6, .inl h4',hml⟩,fun q hq=>?_⟩;show (s.mem.set _ _).getD q 0=_;rw[Cz5,if_neg (by omega)]
 by_cases o10:i.op=10
 ·have h4':=h45 (by omega)
  have hcl:=f4 (.inl o10);clear f1 f2 f3 f4 h4 h45 hnext;rw[if_neg o8,if_neg o9,if_pos o10] at hok hml ⊢;exact⟨by simp,fun _=>⟨hok,by show i.c.toNat<_;omega,h.back,h.r5,h.r6, .inl h4',hml⟩,fun _ _=>rfl⟩
 by_cases o11:i.op=11
 ·have h4':=h45 (by omega)
  have hcl:=f4 (.inr (.inl o11));have hct:i.c.toNat<l.length:=by omega
  have n1:=hnext (by omega);clear f1 f2 f3 f4 h4 h45 hnext;rw[if_neg o8,if_neg o9,if_neg o10,if_pos o11] at hok hml ⊢;exact⟨by simp,fun _=>⟨hok,by (show (if rg s i.a=0 then i.c.toNat else s.pos+1)<l.length);split;exact hct;exact n1,h.back,h.r5,h.r6, .inl h4',hml⟩,fun _ _=>rfl⟩
 by_cases o12:i.op=12
 ·have h4':=h45 (by omega)
  have hcl:=f4 (.inr (.inr o12));have n1:=hnext (by omega);clear f1 f2 f3 f4 h4 h45 hnext;rw[if_neg o8,if_neg o9,if_neg o10,if_neg o11,if_pos o12] at hok hml ⊢;by_cases hb:s.back.length=16
  ·rw[if_pos hb] at hok hml ⊢
   exact⟨by simp,fun h0=>by simp at h0,fun _ _=>rfl⟩
  ·rw[if_neg hb] at hok hml ⊢
   refine⟨by simp,fun _=>⟨hok,by show i.c.toNat<_;omega,?_,h.r5,h.r6, .inl h4',hml⟩,fun _ _=>rfl⟩;intro p hp;rcases List.mem_append.1 hp with hp|hp
   ·exact h.back p hp
   ·simp at hp;omega
 by_cases o13:i.op=13
 ·have h4':=h45 (by omega)
  clear f1 f2 f3 f4 h4 h45 hnext;rw[if_neg o8,if_neg o9,if_neg o10,if_neg o11,if_neg o12,if_pos o13] at hok hml ⊢;by_cases hb:s.back.length=0
  ·rw[if_pos hb] at hok hml ⊢
   exact⟨by simp,fun h0=>by simp at h0,fun _ _=>rfl⟩
  ·rw[if_neg hb] at hok hml ⊢
   refine⟨by simp,fun _=>⟨hok,?_,fun p hp=>h.back p (List.mem_of_mem_take hp),h.r5,h.r6, .inl h4',hml⟩,fun _ _=>rfl⟩;show s.back.getD (s.back.length - 1) 0<_;rw[List.getD_eq_getElem?_getD,List.getElem?_eq_getElem (by omega)];exact h.back _ (List.getElem_mem _)
 by_cases o14:i.op=14
 ·have h4':=h45 (by omega)
  have n1:=hnext (by omega);clear f1 f2 f3 f4 h4 h45 hnext;rw[if_neg o8,if_neg o9,if_neg o10,if_neg o11,if_neg o12,if_neg o13,if_pos o14] at hok hml ⊢;by_cases hb:s.told.length=100
  ·rw[if_pos hb] at hok hml ⊢
   exact⟨by simp,fun h0=>by simp at h0,fun _ _=>rfl⟩
  ·rw[if_neg hb] at hok hml ⊢
   exact⟨by simp,fun _=>⟨hok,n1,h.back,h.r5,h.r6, .inl h4',hml⟩,fun _ _=>rfl⟩
 by_cases o15:i.op=15
 ·rw[if_neg o8,if_neg o9,if_neg o10,if_neg o11,if_neg o12,if_neg o13,if_neg o14,if_pos o15] at hok hml ⊢
  exact⟨by simp,fun h0=>by simp at h0,fun _ _=>rfl⟩
 rw[if_neg o8,if_neg o9,if_neg o10,if_neg o11,if_neg o12,if_neg o13,if_neg o14,if_neg o15] at hok hml ⊢;have q1:=hI.op1;have q2:=hI.op2;have n1:=hnext (by omega);have a56:=f1 (by omega) (by omega);have f2':=f2 (by omega) (by omega);clear f1 f2 f3 f4 hnext;refine⟨by simp,fun _=>⟨hok,n1,h.back,?_,?_,?_,hml⟩,fun _ _=>rfl⟩
 ·show (s.regs.set _ _).getD 5 0=_
  clear h4 h45 f2';rw[Cz5,if_neg (by omega)];exact h.r5
 ·show (s.regs.set _ _).getD 6 0=_
  clear h4 h45 f2';rw[Cz5,if_neg (by omega)];exact h.r6
 ·by_cases a4:i.a=4
  ·have hset:∀ v,((s.regs.set i.a.toNat v).getD 4 0)=v:=fun v=>by
    clear h4 h45 f2';rw[Cz5,if_pos (by omega)]
   show (_≤(s.regs.set i.a.toNat _).getD 4 0∧(s.regs.set i.a.toNat _).getD 4 0≤_)∨((s.regs.set i.a.toNat _).getD 4 0≤_∧sndB (l.getD (s.pos+1) default)=true);rw[hset,hj];by_cases hs2:i.op=5∧i.a=4∧i.b=4∧i.c=5
   ·left
    have e1:rg s i.b=s.regs.getD 4 0:=by unfold rg;rw[hs2.2.2.1];rfl
    have e2:rg s (i.c % 8)=64*r:=by unfold rg;rw[hs2.2.2.2];exact h.r5
    have e3:reck (rg s i.b) (rg s (i.c % 8)) i.op.toNat i.c.toNat=s.regs.getD 4 0 |||64*r:=by rw[e1,e2,hs2.1];rfl
    rw[e3];clear f2' h45;rcases h4 with h4|h4
    ·rw[or_base' r _ h4.1 h4.2];exact h4
    ·rw[Nzj r _ (by omega)];omega
   ·right
    have hf:=f2' a4 hs2;have e2:rg s (i.c % 8)=63:=by unfold rg;rw[hf.1.2.2];exact h.r6
    have e3:reck (rg s i.b) (rg s (i.c % 8)) i.op.toNat i.c.toNat=rg s i.b &&& 63:=by rw[e2,hf.1.1];rfl
    rw[e3,hsj];exact⟨Nat.and_le_right,hf.2⟩
  ·left
   have h4':64*r≤s.regs.getD 4 0∧s.regs.getD 4 0≤64*r+63:=by
    rcases h4 with h4|h4
    ·exact h4
    ·exact absurd h4.2.2.1 a4
   show _≤(s.regs.set _ _).getD 4 0∧(s.regs.set _ _).getD 4 0≤_;clear h4 h45 f2';rw[Cz5,if_neg (by omega)];exact h4'
structure Agree (r:Nat) (s t:Mc):Prop where
 pos:s.pos=t.pos
 back:s.back=t.back
 regs:s.regs=t.regs
 told:s.told=t.told
 len:s.mem.length=t.mem.length
 mem:∀ j,64*r≤j→j≤64*r+63→s.mem.getD j 0=t.mem.getD j 0
theorem Lzq {r:Nat} {l:List Ins} {s t:Mc} (_hr:r<16) (ht:Trusted l) (h:Keeps r l s) (hk:Agree r s t):
  (step l s).2=(step l t).2∧Agree r (step l s).1 (step l t).1:=by
 have hpos:=h.pos;have hin:l[s.pos]? =some l[s.pos]:=List.getElem?_eq_getElem hpos;obtain⟨_,_,f3,_⟩:=Gzj (ht.each s.pos hpos);have hgd:l.getD s.pos default=l[s.pos]:=by rw[List.getD_eq_getElem?_getD,hin];rfl
 have h4:=h.r4;have h16:=h.mem;rw[hgd] at h4;obtain⟨tp,tb,tr,tt,tm⟩:=t;obtain⟨sp,sb,sr,st,sm⟩:=s;obtain⟨e1,e2,e3,e4,e5,e6⟩:=hk;simp only at e1 e2 e3 e4 e5 e6 h16 h4;subst e1 e2 e3 e4;unfold step;rw[hin];generalize l[sp]=i at*;have hrg:∀ z,rg ⟨sp,sb,sr,st,sm⟩ z=rg ⟨sp,sb,sr,st,tm⟩ z:=fun _=>rfl
 have hB:i.op=8∨i.op=9→64*r≤rg ⟨sp,sb,sr,st,tm⟩ i.b∧rg ⟨sp,sb,sr,st,tm⟩ i.b≤64*r+63:=fun ho=>by
  have hb:=f3 ho;have hx:rg ⟨sp,sb,sr,st,tm⟩ i.b=sr.getD 4 0:=by unfold rg;rw[hb];rfl
  rw[hx];rcases h4 with h4|h4
  ·exact h4
  ·simp[sndB] at h4;omega
 clear f3 h4;simp only[hrg];have hme:Agree r ⟨sp,sb,sr,st,sm⟩ ⟨sp,sb,sr,st,tm⟩:=⟨rfl,rfl,rfl,rfl,e5,e6⟩
 repeat' split
 all_goals first
  | exact⟨rfl,rfl,rfl,rfl,rfl,e5,e6⟩
  | (exfalso;simp only at*;omega)
  | skip
 ·rename_i o8 _ _
  have:=hB (.inl o8);exact⟨rfl,rfl,rfl,by simp only;rw[e6 _ this.1 this.2],rfl,e5,e6⟩
 ·refine⟨rfl,rfl,rfl,rfl,rfl,by simpa using e5,fun j h1 h2=>?_⟩
  simp only[Cz5];rw[e5,e6 j h1 h2]
theorem Dzl {r:Nat} {l:List Ins} (hr:r<16) (ht:Trusted l):∀ (n:Nat) (s t:Mc),Keeps r l s→Agree r s t→
  (runs l n s).2≠3∧(runs l n s).2≠0∧(runs l n s).2=(runs l n t).2∧Agree r (runs l n s).1 (runs l n t).1∧∀ j,j<64*r∨64*r+64≤j→(runs l n s).1.mem.getD j 0=s.mem.getD j 0
 | 0,s,t,h,hk=>⟨by simp[runs],by simp[runs],rfl,hk,fun _ _=>rfl⟩
 | n+1,s,t,h,hk=>by
   obtain⟨a1,a2,a3⟩:=Lzt hr ht h;obtain⟨b1,b2⟩:=Lzq hr ht h hk;by_cases h0:(step l s).2=0
   ·rw[Gz9 h0,Gz9 (by rw[←b1];exact h0)]
    obtain⟨c1,c2,c3,c4,c5⟩:=Dzl hr ht n _ _ (a2 h0) b2;exact⟨c1,c2,c3,c4,fun j hj=>(c5 j hj).trans (a3 j hj)⟩
   ·rw[Dza h0,Dza (by rw[←b1];exact h0)]
    exact⟨a1,h0,b1,b2,a3⟩
def ldB (i:Ins):Bool:=i.op == 8 || i.op == 9
def Bz7 (l:List Ins) (k:Nat):Nat:=k+2*(l.take k).countP ldB
def mkI (l:List Ins) (i:Ins):List Ins:=
 if ldB i then [⟨4,4,i.b,6⟩,⟨5,4,4,5⟩,⟨i.op,i.a,4,i.c⟩] else if jmpB i then [⟨i.op,i.a,i.b,(Bz7 l i.c.toNat:Nat)⟩] else [i]
def madeOf (l:List Ins):List Ins:=l.flatMap (mkI l)
def oddB (x:Int):Bool:=decide (4≤x∧x≤6)
def Azt (n:Nat) (i:Ins):Bool:=oddB i.a || oddB i.b || (decide (2≤i.op∧i.op≤7) && oddB i.c) || (jmpB i && decide ((n:Int)≤i.c))
structure PlainOk (l:List Ins):Prop where
 code:Fz4 l
 last:∀ k (h:k<l.length),k+1=l.length→endB l[k]=true
 each:∀ k (h:k<l.length),Azt l.length l[k]=false
theorem Ezx (l:List Ins) (i:Ins):(mkI l i).length=1+2*(if ldB i then 1 else 0):=by
 unfold mkI;cases ldB i with
 | true=>rfl
 | false=>cases jmpB i<;>rfl
theorem flat_length (l0:List Ins):∀ p:List Ins,(p.flatMap (mkI l0)).length=p.length+2*p.countP ldB
 | []=>rfl
 | i::r=>by
   rw[List.flatMap_cons,List.length_append,flat_length l0 r,Ezx,List.countP_cons,List.length_cons];split<;>omega
theorem Czk {l:List Ins} {k:Nat} (h:k≤l.length):((l.take k).flatMap (mkI l)).length=Bz7 l k:=by
 rw[flat_length,Bz7,List.length_take,Nat.min_eq_left h]
theorem Ezr {l:List Ins} {k:Nat} (h:k<l.length):Bz7 l (k+1)=Bz7 l k+1+2*(if ldB l[k] then 1 else 0):=by
 unfold Bz7;rw[List.take_succ_eq_append_getElem h,List.countP_append,List.countP_cons];simp only[List.countP_nil];split<;>omega
theorem Nz2 {l:List Ins} {k:Nat} (h:k<l.length) (j:Nat) (hj:j<(mkI l l[k]).length):(madeOf l)[Bz7 l k+j]? =(mkI l l[k])[j]? :=by
 have e:madeOf l=(l.take k).flatMap (mkI l)++(mkI l l[k]++(l.drop (k+1)).flatMap (mkI l)):=by
  have cut:∀ f:Ins→List Ins,l.flatMap f=(l.take k).flatMap f++(f l[k]++(l.drop (k+1)).flatMap f):=fun f=>by
   conv=>lhs;rw[←List.take_append_drop k l,List.drop_eq_getElem_cons h,List.flatMap_append,List.flatMap_cons]
  exact cut _
 rw[e,List.getElem?_append_right (by rw[Czk (by omega)];omega),Czk (by omega),Nat.add_sub_cancel_left,List.getElem?_append_left hj]
theorem Czj {n:Nat} {i:Ins} (h:Azt n i=false):¬ (4≤i.a∧i.a≤6)∧¬ (4≤i.b∧i.b≤6)∧(2≤i.op→i.op≤7→¬ (4≤i.c∧i.c≤6))∧((i.op=10∨i.op=11∨i.op=12)→i.c<n):=by
 simp only[Azt,oddB,jmpB,Bool.or_eq_false_iff,Bool.and_eq_false_iff,decide_eq_false_iff_not] at h;obtain⟨⟨⟨h1,h2⟩,h3⟩,h4⟩:=h;refine⟨h1,h2,fun a b=>?_,fun a=>?_⟩
 ·rcases h3 with h3|h3
  ·exact absurd ⟨a,b⟩ h3
  ·exact h3
 ·rcases h4 with h4|h4
  ·exact absurd a h4
  ·omega
structure Sim (l:List Ins) (s t:Mc):Prop where
 pos:s.pos<l.length
 tpos:t.pos=Bz7 l s.pos
 back:∀ p∈s.back,p<l.length
 tback:t.back=s.back.map (Bz7 l)
 s8:s.regs.length=8
 t8:t.regs.length=8
 regs:∀ k,k<8→k≠4→k≠5→k≠6→s.regs.getD k 0=t.regs.getD k 0
 r5:t.regs.getD 5 0=0
 r6:t.regs.getD 6 0=63
 told:s.told=t.told
 mem:s.mem=t.mem
 small:s.mem.length≤64
structure Out (s t:Mc):Prop where
 s8:s.regs.length=8
 t8:t.regs.length=8
 regs:∀ k,k<4→s.regs.getD k 0=t.regs.getD k 0
 told:s.told=t.told
 mem:s.mem=t.mem
theorem Sim.rg {l:List Ins} {s t:Mc} (h:Sim l s t) {z:Int} (h0:0≤z) (h7:z≤7) (ho:¬ (4≤z∧z≤6)):rg t z=rg s z:=by
 unfold YtdjamdbamkhblacDoor.rg;exact(h.regs z.toNat (by omega) (by omega) (by omega) (by omega)).symm
theorem Sim.out {l:List Ins} {s t:Mc} (h:Sim l s t):Out s t:=⟨h.s8,h.t8,fun k hk=>h.regs k (by omega) (by omega) (by omega) (by omega),h.told,h.mem⟩
theorem Szy (op:Int):gA op≤7:=by unfold gA;split<;>omega
theorem Sz9 (op:Int):gB op≤7:=by unfold gB;split<;>omega
theorem Szz   (op : Int) : gC op ≤ 65535 := by unfold gC; repeat' split
                                               all_goals omega
theorem Gz6 (i:Ins):okI i=true↔(0≤i.a∧i.a≤gA i.op)∧(0≤i.b∧i.b≤gB i.op)∧(0≤i.c∧i.c≤gC i.op):=by
 simp[okI,and_assoc]
theorem Pz5 {i:Ins} (h1:1≤i.op) (h2:i.op≤15) (h:okI i=true):InsOk i:=by
 obtain⟨⟨a1,a2⟩,⟨b1,b2⟩,c1,c2⟩:=(Gz6 i).1 h;have:=Szy i.op;have:=Sz9 i.op;have:=Szz i.op;refine⟨h1,h2,a1,by omega,b1,by omega,c1,by omega,fun h3 h4=>?_⟩;unfold gC at c2;rw[if_neg (by omega),if_pos ⟨h3,h4⟩] at c2;exact c2
theorem Czf (l:List Ins):chk l=0↔∀ i∈l,(1≤i.op∧i.op≤15)∧okI i=true:=by
 induction l with
 | nil=>simp[chk]
 | cons i r ih=>
   rw[chk];by_cases h1:i.op<1∨15<i.op
   ·rw[if_pos h1]
    refine⟨fun h=>by omega,fun h=>?_⟩;have:=(h i (List.mem_cons_self ..)).1;omega
   ·rw[if_neg h1]
    by_cases h2:okI i=true
    ·rw[if_pos h2,ih]
     exact⟨fun h j hj=>by
      rcases List.mem_cons.1 hj with rfl|hj
      ·exact⟨by omega,h2⟩
      ·exact h j hj,fun h j hj=>h j (List.mem_cons_of_mem _ hj)⟩
    ·rw[if_neg h2]
     exact⟨fun h=>by omega,fun h=>absurd (h i (List.mem_cons_self ..)).2 h2⟩
theorem Azo (l:List Ins):check l=0↔l.length≤200∧chk l=0:=by
 unfold check;split
 ·exact⟨fun h=>by omega,fun h=>by omega⟩
 ·exact⟨fun h=>⟨by omega,h⟩,fun h=>h.2⟩
theorem Bz4 {l:List Ins} (h:check l=0):Fz4 l:=fun i hi=>by
 have:=(Czf l).1 ((Azo l).1 h).2 i hi;exact Pz5 this.1.1 this.1.2 this.2
end Go.Proofs.YtdjamdbamkhblacDoor
