/- Two kernels that differ in the first region's words at most remain so, whatever is done to both: plain mathematics. A script with acts put in that the first module's device answers leaves files, pipes, processes and the other words as without them: plain mathematics. A kernel without modules, its names, and acts that fail: plain mathematics. What K.Data and K.Acts make of raw things, and what TopQuiet puts in: plain mathematics. -/
import Derived.Test.YtdjamdbamkhblacDoorG34
namespace Go.Proofs.YtdjamdbamkhblacDoor
open Go.RowKit
structure Like (k h:Krn):Prop where
 mods:h.mods=k.mods
 nodes:h.nodes=k.nodes
 pipes:h.pipes=k.pipes
 procs:h.procs=k.procs
 len:h.mem.length=k.mem.length
 mem:∀ j,64≤j→h.mem.getD j 0=k.mem.getD j 0
theorem Like.refl (k:Krn):Like k k:=⟨rfl,rfl,rfl,rfl,rfl,fun _ _=>rfl⟩
theorem Like.withMem {k h:Krn} (hk:Like k h) {m m':List Int} (hl:m'.length=m.length) (hm:∀ j,64≤j→m'.getD j 0=m.getD j 0):Like { k with mem:=m } { h with mem:=m' }:=
 ⟨hk.mods,hk.nodes,hk.pipes,hk.procs,hl,hm⟩
theorem Jzu {k h:Krn} (ok:KOk k) (oh:KOk h) (hl:Like k h) {u n:Nat} (hu:u<k.mods.length) (hn:n≤65535):
  (u≠0→(askK k u n).isSome=(askK h u n).isSome∧((askK k u n).map (·.1)=(askK h u n).map (·.1)))∧
  Like (((askK k u n).map (·.2)).getD k) (((askK h u n).map (·.2)).getD h):=by
 have hu8:u<8:=by have:=ok.l0;omega
 have hm:=ok.mods _ (List.getElem_mem hu);have hv:=Ez8 hm;obtain⟨ht,h0,_⟩:=Czp hv;have hc:k.mods.getD u default=k.mods[u]:=Az8 hu;have hc':h.mods.getD u default=k.mods[u]:=by rw[hl.mods];exact hc
 have start:∀ {q:Krn},KOk q→Keeps u k.mods[u].code ⟨0,[],[n,0,0,0,64*u,64*u,63,0],[],q.mem.map Int.toNat⟩:=fun {q} oq=>
  ⟨Mzf oq u n hn hu8,h0,by simp,rfl,rfl, .inl ⟨Nat.le_refl _,by show 64*u≤64*u+63;omega⟩,by simp[oq.l1]⟩
 have self:∀ s:Mc,Agree u s s:=fun s=>⟨rfl,rfl,rfl,rfl,rfl,fun _ _ _=>rfl⟩
 have far:∀ {q:Krn},KOk q→∀ j,j<64*u∨64*u+64≤j→(runs k.mods[u].code 2000 ⟨0,[],[n,0,0,0,64*u,64*u,63,0],[],q.mem.map Int.toNat⟩).1.mem.getD j 0=(q.mem.map Int.toNat).getD j 0:=fun {q} oq j hj=>
  (Dzl (by omega) ht 2000 _ _ (start oq) (self _)).2.2.2.2 j hj
 have nat_:∀ {q:Krn},KOk q→∀ j,(((q.mem.map Int.toNat).getD j 0:Nat):Int)=q.mem.getD j 0:=fun {q} oq j=>by
  simp only[List.getD_eq_getElem?_getD,List.getElem?_map];cases hj:q.mem[j]? with
  | none=>rfl
  | some z=>
    have:=List.any_eq_false.1 oq.mem z (List.mem_of_getElem? hj);simp[oddW] at this;simp;omega
 have len_:∀ {q:Krn},KOk q→(runs k.mods[u].code 2000 ⟨0,[],[n,0,0,0,64*u,64*u,63,0],[],q.mem.map Int.toNat⟩).1.mem.length=1024:=fun {q} oq=>by
  rw[Ezi];simp[oq.l1]
 have cast_:∀ (l:List Nat) (j:Nat),(l.map fun (x:Nat)=>(x:Int)).getD j 0=((l.getD j 0:Nat):Int):=fun l j=>by
  simp only[List.getD_eq_getElem?_getD,List.getElem?_map];cases l[j]? <;>rfl
 unfold askK;rw[hc,hc'];have fk:=far ok;have fh:=far oh;have lk:=len_ ok;have lh:=len_ oh;by_cases hu0:u=0
 ·refine⟨fun h=>absurd hu0 h,?_⟩
  revert fk fh lk lh
  generalize runs k.mods[u].code 2000 ⟨0,[],[n,0,0,0,64*u,64*u,63,0],[],k.mem.map Int.toNat⟩=a;generalize runs k.mods[u].code 2000 ⟨0,[],[n,0,0,0,64*u,64*u,63,0],[],h.mem.map Int.toNat⟩=b;obtain⟨s,en⟩:=a;obtain⟨t,em⟩:=b;intro fk fh lk lh;simp only at fk fh lk lh ⊢;have ks:∀ j,64≤j→(s.mem.map fun (x:Nat)=>(x:Int)).getD j 0=k.mem.getD j 0:=fun j hj=>by
   rw[cast_,fk j (.inr (by omega)),nat_ ok]
  have ht:∀ j,64≤j→(t.mem.map fun (x:Nat)=>(x:Int)).getD j 0=h.mem.getD j 0:=fun j hj=>by
   rw[cast_,fh j (.inr (by omega)),nat_ oh]
  have kl:=ok.l1;have hll:=oh.l1;by_cases e1:en=1<;>by_cases e2:em=1<;>simp only[e1,e2,if_true,if_false,Option.map_some,Option.map_none,Option.getD_some,Option.getD_none]
  ·exact hl.withMem (by simp[lk,lh]) fun j hj=>by rw[ks j hj,ht j hj,hl.mem j hj]
  ·exact hl.withMem (m':=h.mem) (by simp[lk,hll]) fun j hj=>by rw[ks j hj,hl.mem j hj]
  ·exact hl.withMem (m:=k.mem) (by simp[lh,kl]) fun j hj=>by rw[ht j hj,hl.mem j hj]
  ·exact hl
 ·have ag:Agree u (⟨0,[],[n,0,0,0,64*u,64*u,63,0],[],k.mem.map Int.toNat⟩:Mc) ⟨0,[],[n,0,0,0,64*u,64*u,63,0],[],h.mem.map Int.toNat⟩:=
   ⟨rfl,rfl,rfl,rfl,by simp[ok.l1,oh.l1],fun j h1 h2=>by
     have e1:=nat_ ok j;have e2:=nat_ oh j;have e3:=hl.mem j (by omega);show (k.mem.map Int.toNat).getD j 0=(h.mem.map Int.toNat).getD j 0;omega⟩
  obtain⟨_,_,r3,r4,_⟩:=Dzl (by omega) ht 2000 _ _ (start ok) ag
  revert fk fh lk lh r3 r4
  generalize runs k.mods[u].code 2000 ⟨0,[],[n,0,0,0,64*u,64*u,63,0],[],k.mem.map Int.toNat⟩=a;generalize runs k.mods[u].code 2000 ⟨0,[],[n,0,0,0,64*u,64*u,63,0],[],h.mem.map Int.toNat⟩=b;obtain⟨s,en⟩:=a;obtain⟨t,em⟩:=b;intro fk fh lk lh r3 r4;simp only at fk fh lk lh r3 r4 ⊢;subst r3;by_cases e1:en=1
  ·simp only[e1,if_true,Option.map_some,Option.getD_some,Option.isSome_some]
   refine⟨fun _=>⟨trivial,by rw[r4.regs]⟩,hl.withMem (by simp[lk,lh]) fun j hj=>?_⟩;rw[cast_,cast_];by_cases hj2:64*u≤j∧j≤64*u+63
   ·rw[r4.mem j hj2.1 hj2.2]
   ·rw[fk j (by omega),fh j (by omega),nat_ ok,nat_ oh]
    exact hl.mem j hj
  ·simp only[e1,if_false,Option.map_none,Option.getD_none,Option.isSome_none]
   exact⟨fun _=>⟨trivial,trivial⟩,hl⟩
def Fz5 (k:Krn) (u n:Nat):Krn:=((askK k u n).map (·.2)).getD k
theorem Gzz {k:Krn} (h:KOk k) {u n:Nat} (hn:n≤65535) (hu:u<k.mods.length):KOk (Fz5 k u n)∧(Fz5 k u n).mods=k.mods:=by
 unfold Fz5;cases ha:askK k u n with
 | none=>exact⟨h,rfl⟩
 | some x=>
   obtain⟨v,k'⟩:=x;obtain⟨h1,h2,_⟩:=Jzv h hn hu ha;exact⟨h1,h2⟩
theorem Hzw {k h:Krn} (oh:KOk h) (hl:Like k h) {n:Nat} (hu:0<h.mods.length) (hn:n≤65535):Like k (Fz5 h 0 n):=by
 have hc:h.mods.getD 0 default=h.mods[0]:=Az8 hu;have hv:=Ez8 (oh.mods _ (List.getElem_mem hu));obtain⟨ht,h0,_⟩:=Czp hv;unfold Fz5;cases ha:askK h 0 n with
 | none=>exact hl
 | some x=>
   obtain⟨v,k'⟩:=x;have hk:Keeps 0 h.mods[0].code ⟨0,[],[n,0,0,0,64*0,64*0,63,0],[],h.mem.map Int.toNat⟩:=
    ⟨Mzf oh 0 n hn (by omega),h0,by simp,rfl,rfl, .inl ⟨Nat.le_refl _,by show 0≤63;omega⟩,by simp[oh.l1]⟩
   have fh:=(Dzl (by omega) ht 2000 _ _ hk ⟨rfl,rfl,rfl,rfl,rfl,fun _ _ _=>rfl⟩).2.2.2.2;have lh:=Ezi (l:=h.mods[0].code) 2000 ⟨0,[],[n,0,0,0,64*0,64*0,63,0],[],h.mem.map Int.toNat⟩;unfold askK at ha;rw[hc] at ha
   revert ha fh lh
   generalize runs h.mods[0].code 2000 ⟨0,[],[n,0,0,0,64*0,64*0,63,0],[],h.mem.map Int.toNat⟩=b;obtain⟨t,em⟩:=b;intro ha fh lh;simp only at ha fh lh;split at ha
   ·cases ha
    refine hl.withMem (m:=k.mem) (by simpa [hl.len] using lh) fun j hj=>?_
    have e1:(t.mem.map fun (x:Nat)=>(x:Int)).getD j 0=((t.mem.getD j 0:Nat):Int):=by
     simp only[List.getD_eq_getElem?_getD,List.getElem?_map];cases t.mem[j]? <;>rfl
    rw[e1,fh j (.inr (by omega)), ←hl.mem j hj];simp only[List.getD_eq_getElem?_getD,List.getElem?_map];cases hj:h.mem[j]? with
    | none=>rfl
    | some z=>
      have:=List.any_eq_false.1 oh.mem z (List.mem_of_getElem? hj);simp[oddW] at this;simp;omega
   ·cases ha
theorem Cze:∀ (l:List UInt8) {k h:Krn},KOk h→Like k h→0<h.mods.length→Like k (Azq h 0 l).2
 | [],_,_,_,hl,_=>hl
 | c::r,k,h,oh,hl,hu=>by
   have h8:c.toNat<256:=UInt8.toNat_lt c;have hq:=Hzw (n:=c.toNat) oh hl hu (by omega);obtain⟨o1,o2⟩:=Gzz (n:=c.toNat) oh (by omega) hu;unfold Fz5 at hq o1 o2;unfold Azq;cases ha:askK h 0 c.toNat with
   | none=>exact hl
   | some x=>
     obtain⟨v,k'⟩:=x;rw[ha] at hq o1 o2;exact Cze r o1 hq (by have:k'.mods=h.mods:=o2;rw[this];exact hu)
theorem Fzs:∀ (l:List UInt8) {k h:Krn},KOk k→KOk h→Like k h→∀ {u:Nat},u<k.mods.length→u≠0→(Azq k u l).1=(Azq h u l).1∧Like (Azq k u l).2 (Azq h u l).2
 | [],_,_,_,_,hl,_,_,_=>⟨rfl,hl⟩
 | c::r,k,h,ok,oh,hl,u,hu,hu0=>by
   have h8:c.toNat<256:=UInt8.toNat_lt c;obtain⟨a1,a2⟩:=Jzu (n:=c.toNat) ok oh hl hu (by omega);have a1:=(a1 hu0).1;have k1:=Gzz (n:=c.toNat) ok (by omega) hu;have k2:=Gzz (n:=c.toNat) oh (by omega) (by rw[hl.mods];exact hu);unfold Fz5 at k1 k2;unfold Azq;cases ha:askK k u c.toNat with
   | none=>
     cases hb:askK h u c.toNat with
     | none=>exact⟨rfl,hl⟩
     | some y=>rw[ha,hb] at a1;cases a1
   | some x=>
     cases hb:askK h u c.toNat with
     | none=>rw[ha,hb] at a1;cases a1
     | some y=>
       obtain⟨v,k'⟩:=x;obtain⟨v',h'⟩:=y;rw[ha] at a2 k1;rw[hb] at a2 k2;obtain⟨b1,b2⟩:=Fzs r k1.1 k2.1 a2 (u:=u) (by rw[k1.2];exact hu) hu0;exact⟨congrArg (· +1) b1,b2⟩
theorem Like.symm {k h:Krn} (hl:Like k h):Like h k:=⟨hl.mods.symm,hl.nodes.symm,hl.pipes.symm,hl.procs.symm,hl.len.symm,fun j hj=>(hl.mem j hj).symm⟩
theorem Like.trans {a b c:Krn} (h:Like a b) (h':Like b c):Like a c:=⟨h'.mods.trans h.mods,h'.nodes.trans h.nodes,h'.pipes.trans h.pipes,h'.procs.trans h.procs,h'.len.trans h.len,fun j hj=>(h'.mem j hj).trans (h.mem j hj)⟩
theorem Qzq {k h:Krn} (ok:KOk k) (oh:KOk h) (hl:Like k h) (a:Akt) (ha:a.kind≠1) (hak:1≤a.kind∧a.kind≤11):Like (doK k a).1 (doK h a).1:=by
 obtain⟨hm,hn,hp,hq,hlen,hmem⟩:=hl;have hl:Like k h:=⟨hm,hn,hp,hq,hlen,hmem⟩;obtain⟨km,kmem,kn,kp,kq⟩:=k;obtain⟨im,imem,in_,ip,iq⟩:=h;simp only at hm hn hp hq hlen hmem;subst hm;subst hn;subst hp;subst hq;have both:∀ (km':List Mod) (kn':List Nod) (kp':List ByteArray) (kq':List Prc),Like ⟨km',kmem,kn',kp',kq'⟩ ⟨km',imem,kn',kp',kq'⟩:=fun _ _ _ _=>⟨rfl,rfl,rfl,rfl,hlen,hmem⟩
 have mk:∀ x:Nod,Like (Bzq ⟨im,kmem,in_,ip,iq⟩ a.name x).1 (Bzq ⟨im,imem,in_,ip,iq⟩ a.name x).1:=fun x=>by
  unfold Bzq Bzp Ez5;simp only;split
  case isFalse=>exact hl
  split
  case isTrue=>exact hl
  split
  case isTrue=>exact hl
  split
  case isTrue=>exact hl
  exact both _ _ _ _
 unfold doK;rw[if_neg ha,if_neg ha];by_cases h2:a.kind=2
 ·rw[if_pos h2,if_pos h2];exact mk _
 rw[if_neg h2,if_neg h2];by_cases h3:a.kind=3
 ·rw[if_pos h3,if_pos h3];exact mk _
 rw[if_neg h3,if_neg h3];by_cases h4:a.kind=4
 ·rw[if_pos h4,if_pos h4]
  unfold Fz2 Bzp;simp only;split
  ·exact hl
  ·exact both _ _ _ _
 rw[if_neg h4,if_neg h4];simp only;split
 case isFalse=>exact hl
 rename_i hc;have hp4:a.p.toNat<4:=by omega
 unfold byK;simp only;by_cases h5:a.kind=5
 ·rw[if_pos h5,if_pos h5]
  unfold Hze Bzp;simp only;split
  case isFalse=>exact hl
  split
  case isTrue=>exact hl
  split
  case isTrue=>exact hl
  exact both _ _ _ _
 rw[if_neg h5,if_neg h5];by_cases h9:a.kind=9
 ·rw[if_pos h9,if_pos h9]
  unfold Hzg Bz6;simp only;split
  ·exact hl
  ·unfold setEnd
   simp only;split
   ·exact hl
   ·exact both _ _ _ _
 rw[if_neg h9,if_neg h9];by_cases h10:a.kind=10
 ·rw[if_pos h10,if_pos h10]
  unfold Hz5 Dzn;simp only;split
  ·exact hl
  ·exact both _ _ _ _
 rw[if_neg h10,if_neg h10];by_cases h11:a.kind=11
 ·rw[if_pos h11,if_pos h11]
  exact both _ _ _ _
 rw[if_neg h11,if_neg h11];split
 ·exact hl
 rename_i hn0;by_cases h6:a.kind=6
 ·rw[if_pos h6,if_pos h6]
  exact both _ _ _ _
 rw[if_neg h6,if_neg h6];split
 ·exact hl
 rename_i hrw;have hx:=Dz7 ok (i:=a.n.toNat) hp4;have unit_:∀ d:Nod,Bzh im.length d=true→d.kind=2→d.unit.toNat<im.length:=fun d hd h2=>by
  obtain⟨u1,u2,_⟩:=Dzf hd h2;omega
 by_cases h7:a.kind=7
 ·rw[if_pos h7,if_pos h7]
  unfold Cz7;simp only;split
  ·exact hl
  split
  ·split
   ·exact hl
   ·exact both _ _ _ _
  rename_i hk2;split
  ·rename_i hd
   obtain⟨_,q2,q3,_⟩:=Dzu hx (by show ((iq.getD a.p.toNat default).ends.getD a.n.toNat default).kind≠0;omega) (by show ((iq.getD a.p.toNat default).ends.getD a.n.toNat default).kind≠2;omega) (by show ((iq.getD a.p.toNat default).ends.getD a.n.toNat default).kind≠3;omega);have hno:=Fzf ok (i:=((iq.getD a.p.toNat default).ends.getD a.n.toNat default).node.toNat) (by simp only at q2 q3;omega);have h8:=(Jzu (n:=256) ok oh hl (unit_ _ hno hd) (by omega)).2
   revert h8
   simp only;generalize in_.getD ((iq.getD a.p.toNat default).ends.getD a.n.toNat default).node.toNat default=d;cases askK ⟨im,kmem,in_,ip,iq⟩ d.unit.toNat 256 with
   | none=>
     cases askK ⟨im,imem,in_,ip,iq⟩ d.unit.toNat 256 with
     | none=>exact id
     | some y=>exact id
   | some x=>
     cases askK ⟨im,imem,in_,ip,iq⟩ d.unit.toNat 256 with
     | none=>exact id
     | some y=>exact id
  split
  ·exact hl
  ·exact both _ _ _ _
 rw[if_neg h7,if_neg h7];unfold Azw;simp only;split
 ·exact hl
 split
 ·split
  ·exact hl
  split
  ·exact hl
  ·exact both _ _ _ _
 rename_i hk3;split
 ·rename_i hd
  obtain⟨_,q2,q3,_⟩:=Dzu hx (by show ((iq.getD a.p.toNat default).ends.getD a.n.toNat default).kind≠0;omega) (by show ((iq.getD a.p.toNat default).ends.getD a.n.toNat default).kind≠2;omega) (by show ((iq.getD a.p.toNat default).ends.getD a.n.toNat default).kind≠3;omega);have hno:=Fzf ok (i:=((iq.getD a.p.toNat default).ends.getD a.n.toNat default).node.toNat) (by simp only at q2 q3;omega);have hu:=unit_ _ hno hd;simp only at hu;have h8:Like (Azq ⟨im,kmem,in_,ip,iq⟩ (in_.getD ((iq.getD a.p.toNat default).ends.getD a.n.toNat default).node.toNat default).unit.toNat a.data.data.toList).2 (Azq ⟨im,imem,in_,ip,iq⟩ (in_.getD ((iq.getD a.p.toNat default).ends.getD a.n.toNat default).node.toNat default).unit.toNat a.data.data.toList).2:=by
   by_cases h0:(in_.getD ((iq.getD a.p.toNat default).ends.getD a.n.toNat default).node.toNat default).unit.toNat=0
   ·rw[h0] at hu ⊢
    exact(Cze a.data.data.toList ok (Like.refl _) hu).symm.trans (Cze a.data.data.toList oh hl hu)
   ·exact(Fzs a.data.data.toList ok oh hl hu h0).2
  split
  ·split
   ·exact h8
   ·exact h8
  ·split
   ·exact h8
   ·exact h8
 split
 ·exact hl
 ·exact both _ _ _ _
def oneS:ByteArray:=⟨#[111,110,101]⟩
structure Dev0 (k:Krn):Prop where
 live:(k.procs.getD 0 default).live=true
 opn:(k.procs.getD 0 default).ends.getD 0 default=⟨1,0,0⟩
 kind:(k.nodes.getD 0 default).kind=2
 unit:(k.nodes.getD 0 default).unit=0
 name:(k.nodes.getD 0 default).name=oneS
theorem Fzh (k:Krn) (p i:Nat) (x:Opn) (h:¬ (p=0∧i=0)):((setEnd k p i x).procs.getD 0 default).ends.getD 0 default=(k.procs.getD 0 default).ends.getD 0 default∧((setEnd k p i x).procs.getD 0 default).live=(k.procs.getD 0 default).live:=by
 unfold setEnd;simp only[List.getD_eq_getElem?_getD,List.getElem?_set];by_cases hp:p=0
 ·subst hp
  have hi:i≠0:=fun e=>h ⟨rfl,e⟩
  by_cases h0:0<k.procs.length
  ·simp[h0,hi]
  ·simp at h0
   simp[h0]
 ·simp[hp]
theorem Dev0.of_procs {k k':Krn} (h:Dev0 k) (h1:(k'.procs.getD 0 default).ends.getD 0 default=(k.procs.getD 0 default).ends.getD 0 default) (h2:(k'.procs.getD 0 default).live=(k.procs.getD 0 default).live) (h3:k'.nodes.getD 0 default=k.nodes.getD 0 default):Dev0 k':=
 ⟨h2.trans h.live,h1.trans h.opn,by rw[h3];exact h.kind,by rw[h3];exact h.unit,by rw[h3];exact h.name⟩
theorem Dev0.setEnd {k:Krn} (h:Dev0 k) {p i:Nat} {x:Opn} (hn:¬ (p=0∧i=0)):Dev0 (setEnd k p i x):=
 h.of_procs (Fzh k p i x hn).1 (Fzh k p i x hn).2 rfl
theorem Dev0.tidy {k:Krn} (h:Dev0 k):Dev0 (Cza k):=by
 refine h.of_procs rfl rfl ?_;unfold Cza;simp only[List.getD_eq_getElem?_getD,Hza,Nat.zero_add];cases hk:k.nodes[0]? with
 | none=>rfl
 | some x=>
   have hn:=h.name;rw[List.getD_eq_getElem?_getD,hk,Option.getD_some] at hn;simp only[Option.map_some,Option.getD_some];unfold Cz2;rw[hn];rfl
theorem Dev0.setNod {k:Krn} (h:Dev0 k) {i:Nat} {x:Nod} (hi:i≠0):Dev0 (setNod k i x):=by
 refine h.of_procs rfl rfl ?_;rw[Dzy,if_neg (fun e=>hi e.1)]
theorem Dev0.mem {k:Krn} (h:Dev0 k) {m:List Int}:Dev0 { k with mem:=m }:=⟨h.live,h.opn,h.kind,h.unit,h.name⟩
theorem Dev0.procs_set {k:Krn} (h:Dev0 k) {i:Nat} {p:Prc} (hi:i≠0):Dev0 { k with procs:=k.procs.set i p }:=by
 refine h.of_procs ?_ ?_ rfl<;>simp[List.getD_eq_getElem?_getD,hi]
theorem Hz0 {k k':Krn} {u n v:Nat} (h:askK k u n=some (v,k')):∃ m,k'= { k with mem:=m }:=by
 unfold askK at h;split at h;split at h
 ·cases h;exact⟨_,rfl⟩
 ·cases h
theorem Ezq:∀ (l:List UInt8) (k:Krn) (u:Nat),∃ m,(Azq k u l).2= { k with mem:=m }
 | [],k,u=>⟨_,rfl⟩
 | c::r,k,u=>by
   unfold Azq;cases h:askK k u c.toNat with
   | none=>exact⟨_,rfl⟩
   | some x=>
     obtain⟨v,k'⟩:=x;obtain⟨m,rfl⟩:=Hz0 h;obtain⟨m',e⟩:=Ezq r { k with mem:=m } u;exact⟨m',e⟩
structure Leaves (a:Akt):Prop where
 k1:2≤a.kind
 k11:a.kind≤11
 name:a.name≠oneS
 exit:a.kind=11→a.p≠0
 keep:¬ (a.p=0∧a.n=0∧6≤a.kind∧a.kind≤8)
theorem Kz3 {l:List Opn} {j:Nat} (hj:j<l.length) (hk:l[j].kind=0) (h0:(l.getD 0 default).kind≠0):j≠0:=fun e=>by
 subst e;rw[Az8 hj] at h0;exact h0 hk
theorem Qz6 {k:Krn} (_ok:KOk k) (h:Dev0 k) {a:Akt} (ha:Leaves a):Dev0 (doK k a).1:=by
 have h0:((k.procs.getD 0 default).ends.getD 0 default).kind≠0:=by rw[h.opn];decide
 have hfr:∀ {p j:Nat} (hj:j<(k.procs.getD p default).ends.length),(k.procs.getD p default).ends[j].kind=0→¬ (p=0∧j=0):=fun {p j} hj hk e=>by
  obtain⟨rfl,rfl⟩:=e;exact Kz3 hj hk h0 rfl
 have mk:∀ x:Nod,Dev0 (Bzq k a.name x).1:=fun x=>by
  unfold Bzq;split
  case isFalse=>exact h
  split
  case isTrue=>exact h
  split
  case isTrue=>exact h
  split
  case isTrue=>exact h
  rename_i hf;obtain⟨i,hi,he,hp⟩:=Bzx (p:=fun x:Nod=>x.kind == 0) (l:=k.nodes) (k:=0) (by unfold Ez5 at hf;omega);have hfi:Ez5 k=(i:Int):=by unfold Ez5;rw[he];simp
  rw[hfi,Int.toNat_natCast];refine h.setNod fun e=>?_
  subst e;have hk:=h.kind;rw[Az8 hi] at hk;simp[hk] at hp
 obtain⟨a1,a11,an,ae,ak⟩:=ha;unfold doK;rw[if_neg (by omega)];split
 ·exact mk _
 split
 ·exact mk _
 split
 ·unfold Fz2
  split
  ·exact h
  ·rename_i hf
   obtain⟨i,hi,he,_,hn⟩:=Ez4 (k:=k) (s:=a.name) (by omega);rw[he,Int.toNat_natCast];refine(h.setNod fun e=>?_).tidy;subst e;have:=h.name;rw[Az8 hi] at this;exact an (hn.symm.trans this)
 split
 case isFalse=>exact h
 rename_i hc;unfold byK;split
 ·unfold Hze
  split
  case isFalse=>exact h
  split
  case isTrue=>exact h
  split
  case isTrue=>exact h
  rename_i hf;obtain⟨j,hj,hje,hjk⟩:=Bzo (l:=(k.procs.getD a.p.toNat default).ends) (by omega);rw[hje,Int.toNat_natCast];exact h.setEnd (hfr hj hjk)
 split
 ·unfold Hzg
  simp only;split
  ·exact h
  rename_i hf;obtain⟨j,hj,hje,hjk⟩:=Bzo (l:=(k.procs.getD a.p.toNat default).ends) (by omega);rw[hje,Int.toNat_natCast];have h1:Dev0 (YtdjamdbamkhblacDoor.setEnd k a.p.toNat j ⟨2,Bz6 k,0⟩):=h.setEnd (hfr hj hjk);generalize YtdjamdbamkhblacDoor.setEnd k a.p.toNat j ⟨2,Bz6 k,0⟩=k1 at h1;split
  ·exact h
  rename_i hf2;obtain⟨j',hj',hje',hjk'⟩:=Bzo (l:=(k1.procs.getD a.p.toNat default).ends) (by omega);rw[hje',Int.toNat_natCast];refine h1.setEnd fun e=>?_
  have h10:((k1.procs.getD a.p.toNat default).ends.getD 0 default).kind≠0:=by rw[e.1,h1.opn];decide
  exact Kz3 hj' hjk' h10 e.2
 split
 ·unfold Hz5
  split
  ·exact h
  rename_i hf;obtain⟨i,hi,he,hd⟩:=Bzx (p:=fun p:Prc=> !p.live) (l:=k.procs) (k:=0) (by unfold Dzn at hf;omega);have hfi:Dzn k=(i:Int):=by unfold Dzn;rw[he];simp
  rw[hfi,Int.toNat_natCast];refine h.procs_set fun e=>?_
  subst e;have hl:=h.live;rw[Az8 hi] at hl;simp[hl] at hd
 split
 ·rename_i h11
  have hp0:=ae h11;exact(h.procs_set (by omega)).tidy
 simp only;split
 ·exact h
 rename_i hn;split
 ·rename_i h6
  exact(h.setEnd (fun e=>ak ⟨by omega,by omega,by omega,by omega⟩)).tidy
 split
 ·exact h
 split
 ·rename_i h7
  have hpn:¬ (a.p.toNat=0∧a.n.toNat=0):=fun e=>ak ⟨by omega,by omega,by omega,by omega⟩
  unfold Cz7;simp only;split
  ·exact h
  split
  ·split
   ·exact h
   ·exact h.of_procs rfl rfl rfl
  split
  ·cases hq:askK k (k.nodes.getD ((k.procs.getD a.p.toNat default).ends.getD a.n.toNat default).node.toNat default).unit.toNat 256 with
   | none=>exact h
   | some x=>
     obtain⟨v,k'⟩:=x;obtain⟨m,rfl⟩:=Hz0 hq;exact h.mem
  split
  ·exact h
  ·exact h.setEnd hpn
 ·rename_i h5 h9 h10 h11 h6 hrw h7
  have h8:a.kind=8:=by omega
  have hpn:¬ (a.p.toNat=0∧a.n.toNat=0):=fun e=>ak ⟨by omega,by omega,by omega,by omega⟩
  unfold Azw;simp only;split
  ·exact h
  split
  ·split
   ·exact h
   split
   ·exact h
   ·exact h.of_procs rfl rfl rfl
  split
  ·obtain⟨m,e⟩:=Ezq a.data.data.toList k (k.nodes.getD ((k.procs.getD a.p.toNat default).ends.getD a.n.toNat default).node.toNat default).unit.toNat
   rw[e];split
   ·exact h.mem
   ·exact h.mem
  rename_i hd2;split
  ·exact h
  ·refine Dev0.setEnd (h.setNod fun e=>?_) hpn
   rw[e] at hd2;exact hd2 h.kind
def Asks (a:Akt):Prop:=(∃ s:ByteArray,a=⟨8,0,0,0,noS,s⟩∧1≤s.size∧s.size≤100)∨∃ m:Nat,a=⟨7,0,0,m,noS,noS⟩∧1≤m∧m≤100
theorem Kzu {k h:Krn} (oh:KOk h) (hl:Like k h) (hd:Dev0 h) {a:Akt} (ha:Asks a):Like k (doK h a).1∧Dev0 (doK h a).1:=by
 have hn:h.nodes.getD (0:Int).toNat default=h.nodes.getD 0 default:=rfl;have hmods:0<h.mods.length:=by
  have:=Fzf oh (i:=0) (by omega);obtain⟨u1,u2,_⟩:=Dzf this hd.kind;omega
 have hb:∀ (k':Krn) (x:Opn),x.kind≠0→¬ ((0:Int)<0∨(6:Int)≤0∨x.kind=0):=fun _ x hx e=>by omega
 rcases ha with⟨s,rfl,s1,s2⟩|⟨m,rfl,m1,m2⟩
 ·have e:doK h ⟨8,0,0,0,noS,s⟩=Azw h 0 0 s:=by
   unfold doK;rw[if_neg (by simp),if_neg (by simp),if_neg (by simp),if_neg (by simp),if_pos ⟨by simp,by simp,hd.live⟩];unfold byK;have e0:(h.procs.getD (0:Int).toNat default).ends.getD (0:Int).toNat default=⟨1,0,0⟩:=hd.opn;simp only[e0];rw[if_neg (by simp),if_neg (by simp),if_neg (by simp),if_neg (by simp),if_neg (by simp),if_neg (by simp),if_neg (by simp),if_neg (by simp)];rfl
  rw[e];unfold Azw;simp only[hd.opn,hn];have he:¬ (empS s=true∨100<s.size):=by
   unfold empS;rw[beq_iff_eq];omega
  rw[if_neg he,if_neg (by decide),if_pos hd.kind,hd.unit];have hq:=Cze s.data.toList oh hl hmods;obtain⟨m',em⟩:=Ezq s.data.toList h 0;have hdd:Dev0 (Azq h 0 s.data.toList).2:=by rw[em];exact hd.mem
  split
  ·exact⟨hq,hdd⟩
  ·exact⟨hq,hdd⟩
 ·have e:doK h ⟨7,0,0,m,noS,noS⟩=Cz7 h 0 0 m:=by
   unfold doK;rw[if_neg (by simp),if_neg (by simp),if_neg (by simp),if_neg (by simp),if_pos ⟨by simp,by simp,hd.live⟩];unfold byK;have e0:(h.procs.getD (0:Int).toNat default).ends.getD (0:Int).toNat default=⟨1,0,0⟩:=hd.opn;simp only[e0];rw[if_neg (by simp),if_neg (by simp),if_neg (by simp),if_neg (by simp),if_neg (by simp),if_neg (by simp),if_neg (by simp),if_pos trivial];rfl
  rw[e];unfold Cz7;simp only[hd.opn,hn];rw[if_neg (by omega),if_neg (by decide),if_pos hd.kind,hd.unit];have hq:=Hzw (n:=256) oh hl hmods (by omega);unfold Fz5 at hq;have e0:(0:Int).toNat=0:=rfl;rw[e0];cases hask:askK h 0 256 with
  | none=>exact⟨hl,hd⟩
  | some x=>
    obtain⟨v,k'⟩:=x;rw[hask] at hq;obtain⟨m',rfl⟩:=Hz0 hask;exact⟨hq,hd.mem⟩
def Kzs:List Akt→List Akt→Prop
 | p,[]=>p=[]
 | p,b::q=>(Asks b∧Kzs p q)∨(∃ a p',p=a::p'∧a=b∧Leaves a∧Kzs p' q)
theorem Hzx {a:Akt} (h:Asks a):1≤a.kind∧a.kind≤11:=by
 rcases h with⟨s,rfl,_⟩|⟨m,rfl,_⟩<;>simp
theorem Gzr:∀ (q p:List Akt) {k h:Krn},Kzs p q→KOk k→KOk h→Like k h→Dev0 k→Dev0 h→Like (runK k p).1 (runK h q).1∧p.length≤q.length
 | [],p,_,_,hw,_,_,hl,_,_=>by
   have:p=[]:=hw;subst this;exact⟨hl,Nat.le_refl _⟩
 | b::q,p,k,h,hw,ok,oh,hl,dk,dh=>by
   rcases hw with⟨h1,h2⟩|⟨a,p',rfl,rfl,h3,h4⟩
   ·obtain⟨l1,d1⟩:=Kzu oh hl dh h1
    obtain⟨r1,r2⟩:=Gzr q p h2 ok (Ozp oh b (Hzx h1)) l1 dk d1;rw[Gz7 oh (Hzx h1)];exact⟨r1,by simp;omega⟩
   ·have hk:1≤a.kind∧a.kind≤11:=⟨by have:=h3.k1;omega,h3.k11⟩
    obtain⟨r1,r2⟩:=Gzr q p' h4 (Ozp ok a hk) (Ozp oh a hk) (Qzq ok oh hl a (by have:=h3.k1;omega) hk) (Qz6 ok dk h3) (Qz6 oh dh h3);rw[Gz7 ok hk,Gz7 oh hk];exact⟨r1,by simp;omega⟩
def NamesFrom (s:ByteArray) (k k':Krn):Prop:=k'.mods=k.mods∧∀ x∈k'.nodes,x.name=noS∨x.name=s∨∃ y∈k.nodes,y.name=x.name
theorem NamesFrom.refl (s:ByteArray) (k:Krn):NamesFrom s k k:=⟨rfl,fun x hx=> .inr (.inr ⟨x,hx,rfl⟩)⟩
theorem NamesFrom.same {s:ByteArray} {k k':Krn} (h1:k'.mods=k.mods) (h2:k'.nodes=k.nodes):NamesFrom s k k':=⟨h1,fun x hx=> .inr (.inr ⟨x,by rw[←h2];exact hx,rfl⟩)⟩
theorem NamesFrom.trans {s:ByteArray} {k k' k'':Krn} (h:NamesFrom s k k') (h':NamesFrom s k' k''):NamesFrom s k k'':=
 ⟨h'.1.trans h.1,fun x hx=>by
   rcases h'.2 x hx with e|e|⟨y,hy,e⟩
   ·exact .inl e
   ·exact .inr (.inl e)
   ·rw[←e];exact h.2 y hy⟩
theorem NamesFrom.tidy (s:ByteArray) (k:Krn):NamesFrom s k (Cza k):=⟨rfl,fun x hx=>by
 obtain⟨i,hi,rfl⟩:=List.mem_iff_getElem.1 hx;have hi':i<k.nodes.length:=by
  have:(Cza k).nodes.length=k.nodes.length:=Bz2 _ _ _;omega
 have e:(Cza k).nodes[i]=Cz2 k.procs i k.nodes[i]:=Hzb _ _ _ hi;rw[e];unfold Cz2;split
 ·exact .inl rfl
 ·exact .inr (.inr ⟨_,List.getElem_mem hi',rfl⟩)⟩
theorem NamesFrom.setNod {s:ByteArray} {k:Krn} {i:Nat} {x:Nod} (h:x.name=noS∨x.name=s∨∃ y∈k.nodes,y.name=x.name):NamesFrom s k (setNod k i x):=⟨rfl,fun y hy=>by
 rcases List.mem_or_eq_of_mem_set hy with h1|h1
 ·exact .inr (.inr ⟨y,h1,rfl⟩)
 ·subst h1;exact h⟩
theorem Mzt (k:Krn) (i:Nat):(k.nodes.getD i default).name=noS∨∃ y∈k.nodes,y.name=(k.nodes.getD i default).name:=by
 by_cases hi:i<k.nodes.length
 ·rw[Az8 hi];exact .inr ⟨_,List.getElem_mem hi,rfl⟩
 ·rw[List.getD_eq_getElem?_getD,List.getElem?_eq_none (by omega)];exact .inl rfl
theorem Hzv {s:ByteArray} {k k':Krn} {u n v:Nat} (h:askK k u n=some (v,k')):NamesFrom s k k':=by
 unfold askK at h;split at h;split at h
 ·cases h;exact NamesFrom.same rfl rfl
 ·cases h
theorem Dzq {s:ByteArray}:∀ (l:List UInt8) (k:Krn) (u:Nat),NamesFrom s k (Azq k u l).2
 | [],k,u=>NamesFrom.refl s k
 | c::r,k,u=>by
   unfold Azq;cases h:askK k u c.toNat with
   | none=>exact NamesFrom.refl s k
   | some x=>
     obtain⟨v,k'⟩:=x;exact(Hzv h).trans (Dzq r k' u)
theorem Ozo (k:Krn) (a:Akt) (ha:a.kind≠1):NamesFrom a.name k (doK k a).1:=by
 have same:∀ {k':Krn},k'.mods=k.mods→k'.nodes=k.nodes→NamesFrom a.name k k':=fun h1 h2=>NamesFrom.same h1 h2
 have mk:∀ x:Nod,NamesFrom a.name k (Bzq k a.name x).1:=fun x=>by
  unfold Bzq;split
  case isFalse=>exact NamesFrom.refl _ _
  split
  case isTrue=>exact NamesFrom.refl _ _
  split
  case isTrue=>exact NamesFrom.refl _ _
  split
  case isTrue=>exact NamesFrom.refl _ _
  exact NamesFrom.setNod (.inr (.inl rfl))
 unfold doK;rw[if_neg ha];split
 ·exact mk _
 split
 ·exact mk _
 split
 ·unfold Fz2
  split
  ·exact NamesFrom.refl _ _
  ·exact(NamesFrom.setNod (.inl rfl)).trans (NamesFrom.tidy _ _)
 split
 case isFalse=>exact NamesFrom.refl _ _
 unfold byK;split
 ·unfold Hze
  split
  case isFalse=>exact NamesFrom.refl _ _
  split
  case isTrue=>exact NamesFrom.refl _ _
  split
  case isTrue=>exact NamesFrom.refl _ _
  exact same rfl rfl
 split
 ·unfold Hzg
  simp only;split
  ·exact NamesFrom.refl _ _
  split
  ·exact NamesFrom.refl _ _
  ·exact same rfl rfl
 split
 ·unfold Hz5
  split
  ·exact NamesFrom.refl _ _
  ·exact same rfl rfl
 split
 ·unfold Mzp
  exact NamesFrom.trans (k':= { k with procs:=k.procs.set a.p.toNat ⟨false,List.replicate 6 default⟩ }) (same rfl rfl) (NamesFrom.tidy _ _)
 simp only;split
 ·exact NamesFrom.refl _ _
 split
 ·exact NamesFrom.trans (k':=setEnd k a.p.toNat a.n.toNat default) (same rfl rfl) (NamesFrom.tidy _ _)
 split
 ·exact NamesFrom.refl _ _
 split
 ·unfold Cz7
  simp only;split
  ·exact NamesFrom.refl _ _
  split
  ·split
   ·exact NamesFrom.refl _ _
   ·exact same rfl rfl
  split
  ·cases h:askK k (k.nodes.getD ((k.procs.getD a.p.toNat default).ends.getD a.n.toNat default).node.toNat default).unit.toNat 256 with
   | none=>exact NamesFrom.refl _ _
   | some x=>
     obtain⟨v,k'⟩:=x;exact Hzv h
  split
  ·exact NamesFrom.refl _ _
  ·exact same rfl rfl
 ·unfold Azw
  simp only;split
  ·exact NamesFrom.refl _ _
  split
  ·split
   ·exact NamesFrom.refl _ _
   split
   ·exact NamesFrom.refl _ _
   ·exact same rfl rfl
  split
  ·split
   ·exact Dzq _ _ _
   ·exact Dzq _ _ _
  split
  ·exact NamesFrom.refl _ _
  ·refine NamesFrom.trans (NamesFrom.setNod (i:=((k.procs.getD a.p.toNat default).ends.getD a.n.toNat default).node.toNat) (x:= { (k.nodes.getD ((k.procs.getD a.p.toNat default).ends.getD a.n.toNat default).node.toNat default) with data:=_ }) ?_) (NamesFrom.same rfl rfl)
   rcases Mzt k ((k.procs.getD a.p.toNat default).ends.getD a.n.toNat default).node.toNat with e|e
   ·exact .inl e
   ·exact .inr (.inr e)
def Bare (ns:List ByteArray) (k:Krn):Prop:=k.mods=[]∧∀ x∈k.nodes,x.name=noS∨x.name∈ns
theorem Bare.next {ns:List ByteArray} {k:Krn} (h:Bare ns k) {a:Akt} (ha:a.kind≠1) (hn:a.name=noS∨a.name∈ns):Bare ns (doK k a).1:=by
 obtain⟨h1,h2⟩:=Ozo k a ha;refine⟨h1.trans h.1,fun x hx=>?_⟩;rcases h2 x hx with e|e|⟨y,hy,e⟩
 ·exact .inl e
 ·rw[e];exact hn
 ·rw[←e];exact h.2 y hy
theorem Bare.runs {ns:List ByteArray}:∀ (l:List Akt) {k:Krn},Bare ns k→(∀ a∈l,a.kind≠1∧(a.name=noS∨a.name∈ns))→Bare ns (runK k l).1
 | [],_,h,_=>h
 | a::r,k,h,hl=>by
   rw[runK];have ha:=hl a (by simp);split
   ·exact Bare.runs r (h.next ha.1 ha.2) (fun b hb=>hl b (by simp[hb]))
   ·exact Bare.runs r h (fun b hb=>hl b (by simp[hb]))
def gS:ByteArray:=⟨#[103]⟩
def devS:ByteArray:=⟨#[100,101,118]⟩
instance : DecidableEq Akt := fun a b =>
 if h:a.kind=b.kind∧a.p=b.p∧a.n=b.n∧a.m=b.m∧a.name=b.name∧a.data=b.data then .isTrue (by cases a;cases b;simp_all)
 else .isFalse (fun e=>h (by subst e;exact⟨rfl,rfl,rfl,rfl,rfl,rfl⟩))
def Fzv (b:Int) (k:Nat):List UInt8:=(List.range k).map fun i=>u8 (97+(i+pick b 26) % 26)
def Fzu (a b:Int):ByteArray:=⟨(Fzv b (1+pick a 30)).toArray⟩
theorem Kzx (a b:Int):(Fzu a b).size=1+pick a 30:=by simp[Fzu,Fzv,ByteArray.size]
theorem Kz1 (a b:Int):1≤(Fzu a b).size∧(Fzu a b).size≤30:=by
 rw[Kzx];have:=Bz5 a (m:=30) (by omega);omega
def Fzn (c:Int):ByteArray:=if pick c 3=0 then fS else if pick c 3=1 then gS else devS
theorem Nz9 (c:Int):Fzn c∈ [fS,gS,devS]:=by
 unfold Fzn;split
 ·simp
 split<;>simp
def actI (r:Ins):Akt:=
 if pick r.op 30<2 then ⟨2,0,0,0,Fzn r.c,noS⟩
 else if pick r.op 30=2 then ⟨4,0,0,0,Fzn r.c,noS⟩
 else if pick r.op 30<8 then ⟨5,(pick r.a 3:Nat),0,0,Fzn r.c,noS⟩
 else if pick r.op 30<10 then ⟨6,(pick r.a 3:Nat),(pick r.b 6:Nat),0,noS,noS⟩
 else if pick r.op 30<17 then ⟨7,(pick r.a 3:Nat),(pick r.b 6:Nat),(1+pick r.c 30:Nat),noS,noS⟩
 else if pick r.op 30<24 then ⟨8,(pick r.a 3:Nat),(pick r.b 6:Nat),0,noS,Fzu r.c r.b⟩
 else if pick r.op 30<26 then ⟨9,(pick r.a 3:Nat),0,0,noS,noS⟩
 else if pick r.op 30<29 then ⟨10,(pick r.a 3:Nat),0,0,noS,noS⟩
 else ⟨11,(1+pick r.a 3:Nat),0,0,noS,noS⟩
def Jz0 (l:List Ins) (most:Nat):List Akt:=(l.take most).map actI
theorem Qz5 (l:List Ins) (most:Nat):(Jz0 l most).length≤most:=by simp[Jz0];omega
structure ActOk (a:Akt):Prop where
 k2:2≤a.kind
 k11:a.kind≤11
 name:a.name=noS∨a.name∈ [fS,gS,devS]
 exit:a.kind=11→a.p≠0
 data:a.data.size≤30
theorem Qzb (r:Ins):ActOk (actI r):=by
 have hn:=Nz9 r.c;have hd:=(Kz1 r.c r.b).2;have n0:noS.size≤30:=by decide
 unfold actI
 repeat' split
 all_goals refine⟨by simp,by simp,?_,?_,?_⟩
 all_goals first
  | exact .inr hn
  | exact .inl rfl
  | exact n0
  | exact hd
  | (intro h;simp at h;done)
  | (intro _;show ((1+pick r.a 3:Nat):Int)≠0;omega)
theorem Szr (l:List Ins) (most:Nat):∀ a∈Jz0 l most,ActOk a:=fun a ha=>by
 obtain⟨r,_,rfl⟩:=List.mem_map.1 ha;exact Qzb r
def Lz4 (a:Akt):Bool:=(a.p == 0) && (a.n == 0) && decide (6≤a.kind) && decide (a.kind≤8)
theorem Nz1 {a:Akt} (h:ActOk a) (hk:Lz4 a=false):Leaves a:=by
 refine⟨h.k2,h.k11,fun e=>?_,h.exit,fun ⟨h1,h2,h3,h4⟩=>?_⟩
 ·rcases h.name with hn|hn
  ·rw[e] at hn;exact absurd hn (by decide)
  ·rw[e] at hn
   simp only[List.mem_cons,List.not_mem_nil,or_false] at hn;rcases hn with hn|hn|hn<;>exact absurd hn (by decide)
 ·simp[Lz4,h1,h2,h3,h4] at hk
def Lzn (l:List Ins) (i:Nat):List Akt:=
 if i % 4=1 then [⟨8,0,0,0,noS,Fzu (l.getD i default).a (l.getD i default).b⟩] else if i % 4=3 then [⟨7,0,0,(1:Nat),noS,noS⟩] else []
def Lzy (l:List Ins):List Akt→Nat→List Akt
 | [],_=>[]
 | a::r,i=>a::(Lzn l i++Lzy l r (i+1))
theorem Lzo (l:List Ins) (i:Nat):∀ a∈Lzn l i,Asks a:=fun a ha=>by
 unfold Lzn at ha;split at ha
 ·obtain rfl:=List.mem_singleton.1 ha
  have:=Kz1 (l.getD i default).a (l.getD i default).b;exact .inl ⟨_,rfl,this.1,by omega⟩
 split at ha
 ·obtain rfl:=List.mem_singleton.1 ha
  exact .inr ⟨1,rfl,by omega,by omega⟩
 ·cases ha
theorem Izk (l:List Ins) (i:Nat):(Lzn l i).length=if i % 2=1 then 1 else 0:=by
 unfold Lzn;by_cases h1:i % 4=1
 ·rw[if_pos h1,if_pos (by omega)];rfl
 by_cases h3:i % 4=3
 ·rw[if_neg h1,if_pos h3,if_pos (by omega)];rfl
 ·rw[if_neg h1,if_neg h3,if_neg (by omega)];rfl
theorem Izr (l:List Ins):∀ (zs:List Akt) (i:Nat),(Lzy l zs i).length=zs.length+((i+zs.length) / 2 - i / 2)
 | [],i=>by simp[Lzy]
 | a::r,i=>by
   rw[Lzy,List.length_cons,List.length_append,Izr l r,Izk,List.length_cons];split<;>omega
theorem Izs (as0:List Akt):∀ (ps:List Akt),(∀ a∈ps,Asks a)→∀ {p q:List Akt},Kzs p q→Kzs p (ps.filter (fun a=> !(Lz4 a && decide (a∈as0)))++q)
 | [],_,_,_,h=>h
 | b::ps,hb,p,q,h=>by
   rw[List.filter_cons];have ih:=Izs as0 ps (fun a ha=>hb a (by simp[ha])) h;split
   ·exact .inl ⟨hb b (by simp),ih⟩
   ·exact ih
theorem Lzz (l:List Ins) (as0:List Akt):∀ (zs:List Akt) (i:Nat),(∀ a∈zs,ActOk a∧a∈as0)→Kzs (zs.filter (fun a=> !Lz4 a)) ((Lzy l zs i).filter (fun a=> !(Lz4 a && decide (a∈as0))))
 | [],_,_=>rfl
 | a::r,i,h=>by
   have ih:=Lzz l as0 r (i+1) (fun b hb=>h b (by simp[hb]));obtain⟨h1,h2⟩:=h a (by simp);rw[Lzy,List.filter_cons,List.filter_cons,List.filter_append];have ih':=Izs as0 (Lzn l i) (Lzo l i) ih;cases hk:Lz4 a with
   | true=>
     simp only[Bool.not_true,Bool.true_and];rw[if_neg (by simp),if_neg (by simp[h2])];exact ih'
   | false=>
     simp only[Bool.not_false,Bool.false_and];rw[if_pos trivial,if_pos trivial];exact .inr ⟨a,_,rfl,rfl,Nz1 h1 hk,ih'⟩
end Go.Proofs.YtdjamdbamkhblacDoor
