/- Made code is trusted; what a verification that finds nothing says: plain mathematics. The walk of picked: no condition but that the number is one of 64 bits. What K.Plain makes of raw things is plain code, what is made of it is trusted, and what the law MadeSafe puts before it is not: plain mathematics. -/
import Derived.Test.YtdjamdbamkhblacDoorG02
namespace Go.Proofs.YtdjamdbamkhblacDoor
theorem Fzj (n:Nat) (l:List Ins):vrf n l=0↔∀ k (h:k<l.length),badB n l[k] (l.getD (k+1) default)=false:=by
 induction l with
 | nil=>simp[vrf]
 | cons i r ih=>
   rw[vrf];have e0:(i::r).getD 1 default=r.headD default:=by cases r<;>rfl
   by_cases h1:badB n i (r.headD default)=true
   ·rw[if_pos h1]
    refine⟨fun h=>by omega,fun h=>?_⟩;have:=h 0 (by simp);rw[e0] at this;simp only[List.getElem_cons_zero] at this;rw[h1] at this;cases this
   ·rw[if_neg h1,ih]
    refine⟨fun h k hk=>?_,fun h k hk=>h (k+1) (by simpa using hk)⟩;cases k with
    | zero=>rw[e0];simpa using h1
    | succ k=>exact h k (by simpa using hk)
theorem Dzh (l:List Ins):Dz3 l=true↔∃ h:0<l.length,endB l[l.length - 1]=true:=by
 unfold Dz3;rw[List.getLast?_eq_getElem?];by_cases h:0<l.length
 ·rw[List.getElem?_eq_getElem (by omega)]
  exact⟨fun e=>⟨h,e⟩,fun ⟨_,e⟩=>e⟩
 ·rw[List.getElem?_eq_none (by omega)]
  exact⟨fun e=>(nomatch e),fun ⟨h',_⟩=>absurd h' h⟩
theorem Bzf (l:List Ins):verify l=0↔check l=0∧Dz3 l=true∧vrf l.length l=0:=by
 unfold verify;split
 ·rename_i h
  split
  ·rename_i h2
   exact⟨fun e=>⟨h,h2,e⟩,fun e=>e.2.2⟩
  ·rename_i h2
   exact⟨fun e=>by omega,fun e=>absurd e.2.1 h2⟩
 ·rename_i h
  exact⟨fun e=>absurd e h,fun e=>absurd e.1 h⟩
theorem Czp {l:List Ins} (h:verify l=0):Trusted l∧0<l.length∧l.length≤200:=by
 obtain⟨h1,h2,h3⟩:=(Bzf l).1 h;obtain⟨hp,hl⟩:=(Dzh l).1 h2;refine⟨⟨Bz4 h1,fun k hk e=>?_,(Fzj _ l).1 h3⟩,hp,((Azo l).1 h1).1⟩;obtain rfl:k=l.length - 1:=by omega
 exact hl
theorem Gzm (l0:List Ins):∀ (l:List Ins) (q:Nat),q<(l.flatMap (mkI l0)).length→∃ k j,∃ h:k<l.length,j<(mkI l0 l[k]).length∧q=((l.take k).flatMap (mkI l0)).length+j
 | [],q,h=>by simp at h
 | i::r,q,h=>by
   rw[List.flatMap_cons,List.length_append] at h;by_cases hq:q<(mkI l0 i).length
   ·exact⟨0,q,by simp,hq,by simp⟩
   ·obtain⟨k,j,hk,hj,e⟩:=Gzm l0 r (q - (mkI l0 i).length) (by omega)
    exact⟨k+1,j,by simpa using hk,by simpa using hj,by rw[List.take_succ_cons,List.flatMap_cons,List.length_append];omega⟩
theorem Cz6 (l:List Ins):(madeOf l).length=Bz7 l l.length:=by
 have:=Czk (l:=l) (Nat.le_refl _);rw[List.take_length] at this;exact this
theorem Kzv {l:List Ins} {a b:Nat} (h:a≤b):Bz7 l a≤Bz7 l b:=by
 unfold Bz7;have hs:(l.take a).Sublist (l.take b):=by
  have:l.take a=(l.take b).take a:=by rw[List.take_take,Nat.min_eq_left h]
  rw[this];exact List.take_sublist _ _
 have:=hs.countP_le (p:=ldB);omega
theorem Jzx {l:List Ins} {k:Nat} (h:k<l.length):Bz7 l k<(madeOf l).length:=by
 rw[Cz6];have h1:=Ezr h;have h2:=Kzv (l:=l) (show k+1≤l.length by omega);omega
theorem Izb (l:List Ins):l.length≤(madeOf l).length∧(madeOf l).length≤3*l.length:=by
 rw[Cz6,Bz7,List.take_length];have:=List.countP_le_length (p:=ldB) (l:=l);omega
theorem Jzf {l:List Ins} (hp:PlainOk l) (h0:0<l.length) (hck:chk l=0) (h200:(madeOf l).length≤200):verify (madeOf l)=0:=by
 have hok:=(Czf l).1 hck
 -- what stands at a place
 have at_:∀ q (hq:q<(madeOf l).length),∃ k,∃ hk:k<l.length,
   ((ldB l[k]=true∧(((madeOf l)[q]=⟨4,4,l[k].b,6⟩∧(madeOf l)[q+1]? =some ⟨5,4,4,5⟩)∨(madeOf l)[q]=⟨5,4,4,5⟩∨(madeOf l)[q]=⟨l[k].op,l[k].a,4,l[k].c⟩))∨
    (ldB l[k]=false∧jmpB l[k]=true∧(madeOf l)[q]=⟨l[k].op,l[k].a,l[k].b,(Bz7 l l[k].c.toNat:Nat)⟩)∨
    (ldB l[k]=false∧jmpB l[k]=false∧(madeOf l)[q]=l[k])):=by
  intro q hq;obtain⟨k,j,hk,hj,e⟩:=Gzm l l q hq;rw[Czk (by omega)] at e;have hm:=fun j hj=>Nz2 hk j hj
  have hq1:=hm j hj;rw[←e,List.getElem?_eq_getElem hq] at hq1;refine⟨k,hk,?_⟩;cases hld:ldB l[k] with
  | true=>
    have mk:mkI l l[k]=[⟨4,4,l[k].b,6⟩,⟨5,4,4,5⟩,⟨l[k].op,l[k].a,4,l[k].c⟩]:=by unfold mkI;rw[if_pos hld]
    rw[mk] at hq1 hj hm;left;refine⟨rfl,?_⟩
    match j,hj with
    | 0,_=>left;exact⟨by simpa using hq1,by have:=hm 1 (by simp);rw[e];exact this⟩
    | 1,_=>right;left;simpa using hq1
    | 2,_=>right;right;simpa using hq1
  | false=>
    right;have hj0:j=0:=by
     have:=Ezx l l[k];rw[hld] at this;simp at this;omega
    subst hj0;cases hjb:jmpB l[k] with
    | true=>
      have mk:mkI l l[k]=[⟨l[k].op,l[k].a,l[k].b,(Bz7 l l[k].c.toNat:Nat)⟩]:=by unfold mkI;rw[if_neg (by rw[hld];decide),if_pos hjb]
      rw[mk] at hq1;left;exact⟨rfl,rfl,by simpa using hq1⟩
    | false=>
      have mk:mkI l l[k]=[l[k]]:=by unfold mkI;rw[if_neg (by rw[hld];decide),if_neg (by rw[hjb];decide)]
      rw[mk] at hq1;right;exact⟨rfl,rfl,by simpa using hq1⟩
 have hlen:=(Izb l).1;refine(Bzf _).2 ⟨(Azo _).2 ⟨h200,(Czf _).2 fun i hi=>?_⟩,(Dzh _).2 ⟨by omega,?_⟩,(Fzj _ _).2 fun q hq=>?_⟩
 ·obtain⟨q,hq,rfl⟩:=List.mem_iff_getElem.1 hi
  obtain⟨k,hk,hc⟩:=at_ q hq;obtain⟨⟨o1,o2⟩,o3⟩:=hok _ (List.getElem_mem hk);obtain⟨ha,hb,hcc⟩:=(Gz6 _).1 o3;obtain⟨fa,fb,fc,fj⟩:=Czj (hp.each k hk);rcases hc with⟨hld,hc⟩|⟨hld,hjb,hc⟩|⟨hld,hjb,hc⟩
  ·have ho:l[k].op=8∨l[k].op=9:=by simpa [ldB] using hld
   have b7:=Sz9 l[k].op;rcases hc with⟨hc,_⟩|hc|hc
   ·rw[hc]
    refine⟨by simp,(Gz6 _).2 ⟨(by decide:(0:Int)≤4∧(4:Int)≤gA 4),?_,(by decide:(0:Int)≤6∧(6:Int)≤gC 4)⟩⟩;show 0≤l[k].b∧l[k].b≤7;omega
   ·rw[hc];exact⟨by decide,by decide⟩
   ·rw[hc]
    refine⟨⟨o1,o2⟩,(Gz6 _).2 ⟨ha,?_,hcc⟩⟩;show 0≤(4:Int)∧4≤gB l[k].op;unfold gB;rw[if_pos (by omega)];omega
  ·rw[hc]
   have ho:l[k].op=10∨l[k].op=11∨l[k].op=12:=by simpa [jmpB] using hjb
   have hlt:=fj ho;have:=Jzx (l:=l) (k:=l[k].c.toNat) (by omega);refine⟨⟨o1,o2⟩,(Gz6 _).2 ⟨ha,hb,?_⟩⟩;show 0≤((Bz7 l l[k].c.toNat:Nat):Int)∧((Bz7 l l[k].c.toNat:Nat):Int)≤gC l[k].op;unfold gC;rw[if_neg (by omega),if_neg (by omega),if_pos (by omega)];omega
  ·rw[hc];exact⟨⟨o1,o2⟩,o3⟩
 ·have hE:=hp.last (l.length - 1) (by omega) (by omega)
  have hE':l[l.length - 1].op=10∨l[l.length - 1].op=13∨l[l.length - 1].op=15:=by simpa [endB] using hE
  have hld:ldB l[l.length - 1]=false:=by simp[ldB];omega
  have hm:=Nz2 (l:=l) (k:=l.length - 1) (by omega) 0 (by rw[Ezx];omega);have hs:=Ezr (l:=l) (k:=l.length - 1) (by omega);rw[hld,show l.length - 1+1=l.length by omega, ←Cz6] at hs;simp only[Bool.false_eq_true,if_false,Nat.mul_zero,Nat.add_zero] at hs;rw[Nat.add_zero,show Bz7 l (l.length - 1)=(madeOf l).length - 1 by omega,List.getElem?_eq_getElem (by omega)] at hm;unfold mkI at hm;rw[if_neg (by rw[hld];decide)] at hm;split at hm
  ·simp only[List.getElem?_cons_zero,Option.some.injEq] at hm
   rw[hm];simp only[endB,decide_eq_true_eq];exact hE'
  ·simp only[List.getElem?_cons_zero,Option.some.injEq] at hm
   rw[hm];exact hE
 ·obtain⟨k,hk,hc⟩:=at_ q hq
  obtain⟨⟨o1,o2⟩,o3⟩:=hok _ (List.getElem_mem hk);obtain⟨fa,fb,fc,fj⟩:=Czj (hp.each k hk);rcases hc with⟨hld,hc⟩|⟨hld,hjb,hc⟩|⟨hld,hjb,hc⟩
  ·have ho:l[k].op=8∨l[k].op=9:=by simpa [ldB] using hld
   rcases hc with⟨hc,hn⟩|hc|hc
   ·rw[hc,List.getD_eq_getElem?_getD,hn]
    simp[badB,wrB,fstB,sndB,jmpB]
   ·rw[hc]
    simp[badB,wrB,fstB,sndB,jmpB]
   ·rw[hc]
    have h1:l[k].a≠4:=by omega
    have h2:l[k].a≠5:=by omega
    have h3:l[k].a≠6:=by omega
    rcases ho with ho|ho<;>simp[badB,wrB,jmpB,ho,h1,h2,h3]
  ·rw[hc]
   have ho:l[k].op=10∨l[k].op=11∨l[k].op=12:=by simpa [jmpB] using hjb
   have hlt:=fj ho;have:=Jzx (l:=l) (k:=l[k].c.toNat) (by omega);rcases ho with ho|ho|ho<;>simp[badB,wrB,jmpB,ho]<;>omega
  ·rw[hc]
   have h1:l[k].a≠4:=by omega
   have h2:l[k].a≠5:=by omega
   have h3:l[k].a≠6:=by omega
   have h8:l[k].op≠8∧l[k].op≠9:=by simpa [ldB] using hld
   simp[badB,hjb,h1,h2,h3,h8.1,h8.2]
open Go.RowKit
def pick (n:Int) (m:Nat):Nat:=(if n<0 then -(n+1) else n).toNat % m
theorem Bz5 (n:Int) {m:Nat} (h:0<m):pick n m<m:=Nat.mod_lt _ h
set_option maxHeartbeats 400000 in
theorem Azd (n:Int) (m:Nat) (w:World) (h1: -9223372036854775808≤n) (h2:n≤9223372036854775807) (hm:0<m) (hm2:(m:Int)≤9223372036854775807):
  Calls Tryd.prog 13 #[.int .i64 n, .int .i64 (m:Int)] w fun e w'=>e= .returned (.int .i64 (pick n m:Nat))∧w=w':=by
 have hm0:¬ (m:Int)=0:=by omega
 have hm1:(0:Int)<(m:Int):=by omega
 have hm3:((m:Int) == 0)=false:=by rw[beq_eq_false_iff_ne];exact hm0
 by_cases hn:n<0
 ·have hn2:0≤ -(n+1):=by omega
  have HP:Hid ((pick n m:Nat)=((-(n+1)) % (m:Int))):=by
   show ((pick n m:Nat):Int)=_;unfold pick;rw[if_pos hn,Int.natCast_emod,Int.toNat_of_nonneg hn2]
  go_enter Tryd.func13,Tryd.ntmps13;go_wp2;go_ret;refine⟨Azb ?_,rfl⟩;rw[←Int.neg_tmod,Int.tmod_eq_emod_of_nonneg hn2];exact HP.out.symm
 ·have hn1:0≤n:=by omega
  have HP:Hid ((pick n m:Nat)=(n % (m:Int))):=by
   show ((pick n m:Nat):Int)=_;unfold pick;rw[if_neg hn,Int.natCast_emod,Int.toNat_of_nonneg hn1]
  clear hn;go_enter Tryd.func13,Tryd.ntmps13;go_wp2;go_ret;refine⟨Azb ?_,rfl⟩
  first|exact HP.out.symm|(rw[Int.tmod_eq_emod_of_nonneg hn1];exact HP.out.symm)
def Dzo (n i:Nat) (r:Ins):Ins:=
 if pick r.op 14=0 then ⟨1,(pick r.a 4:Nat),0,(pick r.c 80:Nat)⟩
 else if pick r.op 14=7∨pick r.op 14=8 then ⟨1+(pick r.op 14:Nat),(pick r.a 4:Nat),(pick r.b 4:Nat),0⟩
 else if pick r.op 14=9∨pick r.op 14=11 then (if pick r.b 9=0 then ⟨12,0,0,((i+pick r.c (n+1 - i):Nat):Int)⟩ else ⟨11,(pick r.a 4:Nat),0,((i+pick r.c (n+1 - i):Nat):Int)⟩)
 else if pick r.op 14=10 then ⟨11,(pick r.a 4:Nat),0,if pick r.b 12=0 then (pick r.c (n+1):Nat) else ((i+pick r.c (n+1 - i):Nat):Int)⟩
 else if pick r.op 14=12 then (if 0<pick r.c 3 then ⟨2,1,2,3⟩ else ⟨13,0,0,0⟩)
 else if pick r.op 14=13 then ⟨14,(pick r.a 4:Nat),0,0⟩
 else ⟨1+(pick r.op 14:Nat),(pick r.a 4:Nat),(pick r.b 4:Nat),(pick r.c 4:Nat)⟩
def Aze (l:List Ins) (n k:Nat):List Ins:=(List.range k).map fun i=>Dzo n i (l.getD i default)
def Czn (l:List Ins):Nat:=min l.length 30
def Azl (l:List Ins):List Ins:=Aze l (Czn l) (Czn l)++ [⟨13,0,0,0⟩]
theorem Izj (l:List Ins) (n k:Nat):Aze l n (k+1)=Aze l n k++ [Dzo n k (l.getD k default)]:=by
 simp[Aze,List.range_succ]
theorem Bzy (l:List Ins) (n k:Nat):(Aze l n k).length=k:=by simp[Aze]
theorem Ezd (l:List Ins):(Azl l).length=Czn l+1:=by simp[Azl,Bzy]
theorem Izi (l:List Ins):Czn l≤30:=by unfold Czn;omega
theorem Hzf (n:Int):(pick n 4:Nat)≤3:=by have:=Bz5 n (m:=4) (by omega);omega
theorem Nzm (n i:Nat) (r:Ins) (hi:i≤n) (hn:n≤30):(1≤(Dzo n i r).op∧(Dzo n i r).op≤15)∧okI (Dzo n i r)=true∧Azt (n+1) (Dzo n i r)=false:=by
 have ho:=Bz5 r.op (m:=14) (by omega);have ha:=Hzf r.a;have hb:=Hzf r.b;have hc:=Hzf r.c;have hc80:=Bz5 r.c (m:=80) (by omega);have hc1:=Bz5 r.c (m:=n+1 - i) (by omega);have hc2:=Bz5 r.c (m:=n+1) (by omega);unfold Dzo;by_cases h0:pick r.op 14=0
 ·rw[if_pos h0];simp[okI,gA,gB,gC,Azt,oddB,jmpB];omega
 rw[if_neg h0];by_cases h1:pick r.op 14=7∨pick r.op 14=8
 ·rw[if_pos h1]
  rcases h1 with h1|h1<;>rw[h1]<;>simp[okI,gA,gB,gC,Azt,oddB,jmpB]<;>omega
 rw[if_neg h1];by_cases h2:pick r.op 14=9∨pick r.op 14=11
 ·rw[if_pos h2]
  split<;>simp[okI,gA,gB,gC,Azt,oddB,jmpB]<;>omega
 rw[if_neg h2];by_cases h3:pick r.op 14=10
 ·rw[if_pos h3]
  split<;>simp[okI,gA,gB,gC,Azt,oddB,jmpB]<;>omega
 rw[if_neg h3];by_cases h4:pick r.op 14=12
 ·rw[if_pos h4]
  split<;>simp[okI,gA,gB,gC,Azt,oddB,jmpB]
 rw[if_neg h4];by_cases h5:pick r.op 14=13
 ·rw[if_pos h5];simp[okI,gA,gB,gC,Azt,oddB,jmpB];omega
 rw[if_neg h5];have:pick r.op 14=1∨pick r.op 14=2∨pick r.op 14=3∨pick r.op 14=4∨pick r.op 14=5∨pick r.op 14=6:=by omega
 rcases this with h|h|h|h|h|h<;>rw[h]<;>simp[okI,gA,gB,gC,Azt,oddB,jmpB]<;>omega
theorem Ezc (l:List Ins) (k:Nat) (h:k<(Azl l).length):((1≤(Azl l)[k].op∧(Azl l)[k].op≤15)∧okI (Azl l)[k]=true∧Azt (Azl l).length (Azl l)[k]=false)∧(k+1=(Azl l).length→(Azl l)[k]=⟨13,0,0,0⟩):=by
 have hlen:=Ezd l;have hn:=Izi l;rw[hlen] at h;rcases Nat.lt_or_ge k (Czn l) with hk|hk
 ·have e:(Azl l)[k]'(by rw[hlen];omega)=Dzo (Czn l) k (l.getD k default):=by
   unfold Azl;rw[List.getElem_append_left (by rw[Bzy];exact hk)];simp[Aze]
  rw[e,hlen];exact⟨Nzm _ _ _ (by omega) hn,fun h=>by omega⟩
 ·have hk':k=Czn l:=by omega
  have e:(Azl l)[k]'(by rw[hlen];omega)=⟨13,0,0,0⟩:=by
   unfold Azl;rw[List.getElem_append_right (by rw[Bzy];omega)];simp
  rw[e,hlen];refine⟨⟨⟨by decide,by decide⟩,rfl,?_⟩,fun _=>rfl⟩;simp[Azt,oddB,jmpB]
theorem Eze (l:List Ins):PlainOk (Azl l)∧chk (Azl l)=0∧0<(Azl l).length∧(Azl l).length≤31:=by
 have hlen:=Ezd l;have hn:=Izi l;have hchk:chk (Azl l)=0:=(Czf _).2 fun i hi=>by
  obtain⟨k,hk,rfl⟩:=List.mem_iff_getElem.1 hi;exact⟨(Ezc l k hk).1.1,(Ezc l k hk).1.2.1⟩
 refine⟨⟨Bz4 ((Azo _).2 ⟨by omega,hchk⟩),fun k hk h=>?_,fun k hk=>(Ezc l k hk).1.2.2⟩,hchk,by omega,by omega⟩;rw[(Ezc l k hk).2 h];rfl
theorem Dzw (l:List Ins):(Azl l).length≤(madeOf (Azl l)).length∧(madeOf (Azl l)).length≤93∧verify (madeOf (Azl l))=0:=by
 obtain⟨h1,h2,h3,h4⟩:=Eze l;obtain⟨h5,h6⟩:=Izb (Azl l);exact⟨h5,by omega,Jzf h1 h3 h2 (by omega)⟩
theorem Hzi (l:List Ins):Dz3 (Azl l)=true∧(Azl l).any (Azt (Azl l).length)=false:=by
 obtain⟨h1,_,h3,_⟩:=Eze l;refine⟨(Dzh _).2 ⟨h3,h1.last _ (by omega) (by omega)⟩,?_⟩;rw[List.any_eq_false];intro i hi;obtain⟨k,hk,rfl⟩:=List.mem_iff_getElem.1 hi;rw[h1.each k hk];simp
end Go.Proofs.YtdjamdbamkhblacDoor
