/- A kernel that is in order is in order behind each act: plain mathematics. A kernel under way: whole files, open ends, processes, words stored. No condition. -/
import Derived.Test.YtdjamdbamkhblacGreatDoorG05
namespace Go.Proofs.YtdjamdbamkhblacGreatDoor
open Go.RowKit
theorem Kzv {ps:List Prc} {i:Nat} {p':Prc} {kd pl:Int} (h:hasE ps kd pl=true) (hi:∀ (hi:i<ps.length),hasP kd pl ps[i]=true→hasP kd pl p'=true):hasE (ps.set i p') kd pl=true:=by
 unfold hasE at h ⊢;obtain⟨p,hp,hx⟩:=List.any_eq_true.1 h;obtain⟨j,hj,rfl⟩:=List.mem_iff_getElem.1 hp;rw[List.any_eq_true];by_cases hji:i=j
 ·subst hji
  exact⟨p',List.mem_iff_getElem.2 ⟨i,by simpa using hj,by simp⟩,hi hj hx⟩
 ·exact⟨ps[j],List.mem_iff_getElem.2 ⟨j,by simpa using hj,by rw[List.getElem_set_ne hji]⟩,hx⟩
theorem Hzz {k:Krn} {i:Nat} {p':Prc} (h:k.procs.any (Azt k)=false) (hb:Azt k p'=false):(k.procs.set i p').any (Azt k)=false:=by
 rw[List.any_eq_false] at h ⊢;intro x hx;rcases List.mem_or_eq_of_mem_set hx with h1|h1
 ·exact h x h1
 ·subst h1;rw[hb];simp
theorem KPre.procs_set {k:Krn} (h:KPre k) (i:Nat) (p':Prc) (hb:Azt k p'=false):KPre { k with procs:=k.procs.set i p' }:=
 ⟨h.l0,h.l1,h.l2,h.l3,(List.length_set ..).trans h.l4,h.mods,h.modd,h.mem,h.nodes,Hzz h.procs hb,h.pipes⟩
theorem KOk.procs_set {k:Krn} (h:KOk k) (i:Nat) (p':Prc) (hb:Azt k p'=false) (hm:∀ (hi:i<k.procs.length) kd pl,kd=1∨kd=2→hasP kd pl k.procs[i]=true→hasP kd pl p'=true):KOk { k with procs:=k.procs.set i p' }:=
 KPre.ok (h.pre.procs_set i p' hb) (fun j hj h1 h2=>Kzv (h.open_.1 j hj h1 h2) fun hi=>hm hi _ _ (.inl rfl)) (fun j hj h1=>Kzv (h.open_.2 j hj h1) fun hi=>hm hi _ _ (.inr rfl))
theorem Az3 {α:Type} [Inhabited α] {l:List α} {i:Nat} (h:i<l.length):l.getD i default=l[i]:=by
 rw[List.getD_eq_getElem?_getD,List.getElem?_eq_getElem h];rfl
theorem Pz4 {p:Prc} {i:Nat} {x:Opn} {kd pl:Int} (h:hasP kd pl p=true) (hx:∀ (hi:i<p.ends.length),p.ends[i].kind=kd→p.ends[i].node=pl→x.kind=kd∧x.node=pl):hasP kd pl { p with ends:=p.ends.set i x }=true:=by
 unfold hasP at h ⊢;obtain⟨y,hy,hk⟩:=List.any_eq_true.1 h;obtain⟨j,hj,rfl⟩:=List.mem_iff_getElem.1 hy;rw[List.any_eq_true];simp only[Bool.and_eq_true,beq_iff_eq] at hk;by_cases hji:i=j
 ·subst hji
  exact⟨x,List.mem_iff_getElem.2 ⟨i,by simpa using hj,by simp⟩,by simpa using hx hj hk.1 hk.2⟩
 ·exact⟨p.ends[j],List.mem_iff_getElem.2 ⟨j,by simpa using hj,by rw[List.getElem_set_ne hji]⟩,by simpa using hk⟩
theorem Hz5 {k:Krn} {p:Prc} {i:Nat} {x:Opn} (h:Azt k p=false) (hx:endOk k x=true) (hl:p.live=false→x.kind=0):Azt k { p with ends:=p.ends.set i x }=false:=by
 rw[Bzp] at h ⊢;refine⟨(List.length_set ..).trans h.1,fun y hy=>?_⟩;rcases List.mem_or_eq_of_mem_set hy with h1|h1
 ·exact h.2 y h1
 ·subst h1;exact⟨hx,hl⟩
theorem KPre.setEnd {k:Krn} (h:KPre k) {p i:Nat} {x:Opn} (hp:p<4) (hx:endOk k x=true) (hl:(k.procs.getD p default).live=false→x.kind=0):KPre (setEnd k p i x):=by
 have hp':p<k.procs.length:=by rw[h.l4];exact hp
 refine h.procs_set p _ (Hz5 ?_ hx hl);rw[Az3 hp'];exact Bzx.1 h.procs p hp'
theorem KOk.setEnd {k:Krn} (h:KOk k) {p i:Nat} {x:Opn} (hp:p<4) (hx:endOk k x=true) (hl:(k.procs.getD p default).live=false→x.kind=0)
  (hs:∀ y,(k.procs.getD p default).ends[i]? =some y→y.kind=0∨(x.kind=y.kind∧x.node=y.node)):KOk (setEnd k p i x):=by
 have hp':p<k.procs.length:=by rw[h.l4];exact hp
 refine h.procs_set p _ (Hz5 ?_ hx hl) fun hi kd pl hkd hh=>?_
 ·rw[Az3 hp']
  exact Bzx.1 h.procs p hp'
 ·rw[Az3 hp'] at hs ⊢
  refine Pz4 hh fun hi2 h1 h2=>?_
  rcases hs _ (List.getElem?_eq_getElem hi2) with h3|h3
  ·omega
  ·exact⟨h3.1.trans h1,h3.2.trans h2⟩
theorem Cz6 {k:Krn} (h:KOk k) {p i:Nat} (hp:p<4):endOk k ((k.procs.getD p default).ends.getD i default)=true:=by
 have hp':p<k.procs.length:=by rw[h.l4];exact hp
 rw[Az3 hp'];have hb:=Bzp.1 (Bzx.1 h.procs p hp');by_cases hi:i<k.procs[p].ends.length
 ·rw[Az3 hi]
  exact(hb.2 _ (List.getElem_mem hi)).1
 ·rw[List.getD_eq_getElem?_getD,List.getElem?_eq_none (by omega)]
  rfl
theorem Bzb {k:Krn} (h:KOk k) {p:Nat} (hp:p<4):(k.procs.getD p default).ends.length=6:=by
 have hp':p<k.procs.length:=by rw[h.l4];exact hp
 rw[Az3 hp'];exact(Bzp.1 (Bzx.1 h.procs p hp')).1
theorem Ezl {k:Krn} (h:KOk k) {i:Nat} (hi:i<8):Bz6 k.mods.length (k.nodes.getD i default)=true:=by
 have hi':i<k.nodes.length:=by rw[h.l2];exact hi
 rw[Az3 hi'];exact((Bz9 hi').1 (h.nodes i hi')).1.1
theorem Jzt {k k':Krn} {x:Opn} (h:endOk k x=true) (hn:∀ j,(k.nodes.getD j default).kind≠0→(k'.nodes.getD j default).kind≠0):endOk k' x=true:=by
 unfold endOk at h ⊢;by_cases k0:x.kind=0
 ·rw[if_pos k0] at h ⊢;exact h
 rw[if_neg k0] at h ⊢;by_cases k1:x.kind=1
 ·rw[if_pos k1] at h ⊢
  simp only[Bool.and_eq_true,decide_eq_true_eq,bne_iff_ne] at h ⊢;exact⟨⟨h.1.1,hn _ h.1.2⟩,h.2⟩
 rw[if_neg k1] at h ⊢;exact h
theorem Gzl (k:Krn) (i j:Nat) (x:Nod):(setNod k i x).nodes.getD j default=if i=j∧j<k.nodes.length then x else k.nodes.getD j default:=by
 unfold setNod;simp only[List.getD_eq_getElem?_getD,List.getElem?_set];by_cases h:i=j
 ·subst h
  by_cases h2:i<k.nodes.length<;>simp[h2]
 ·simp[h]
theorem Ezo {k:Krn} {i j:Nat} {x:Nod} (hj:j<(setNod k i x).nodes.length):(setNod k i x).nodes[j]=if i=j then x else k.nodes[j]'(by simpa [setNod] using hj):=by
 unfold setNod at hj ⊢;simp only[List.getElem_set]
theorem KPre.setNod {k:Krn} (h:KPre k) {i:Nat} {x:Nod} (ho:Bz6 k.mods.length x=true) (hk:(k.nodes.getD i default).kind≠0→x.kind≠0)
  (hn:x.name≠noS→Azs x.name=true∧x.kind≠0∧∀ j (hj:j<k.nodes.length),j≠i→k.nodes[j].name≠x.name):KPre (setNod k i x):=by
 have hl:(YtdjamdbamkhblacGreatDoor.setNod k i x).nodes.length=k.nodes.length:=by simp[YtdjamdbamkhblacGreatDoor.setNod]
 refine⟨h.l0,h.l1,hl.trans h.l2,h.l3,h.l4,h.mods,h.modd,h.mem,fun j hj=>?_,?_,h.pipes⟩
 ·have hj':j<k.nodes.length:=by rw[hl] at hj;exact hj
  rw[Ezo hj];by_cases hij:i=j
  ·rw[if_pos hij]
   refine⟨ho,fun hne=>⟨(hn hne).1,(hn hne).2.1,fun t ht htj=>?_⟩⟩;rw[Ezo ht,if_neg (by omega)];exact(hn hne).2.2 t (by rw[hl] at ht;exact ht) (by omega)
  ·rw[if_neg hij]
   obtain⟨a,b⟩:=h.nodes j hj';refine⟨a,fun hne=>⟨(b hne).1,(b hne).2.1,fun t ht htj=>?_⟩⟩;rw[Ezo ht];by_cases hit:i=t
   ·rw[if_pos hit]
    by_cases hx:x.name=noS
    ·rw[hx];exact fun e=>hne e.symm
    ·exact fun e=>(hn hx).2.2 j hj' (fun e'=>hij e'.symm) e.symm
   ·rw[if_neg hit]
    exact(b hne).2.2 t (by rw[hl] at ht;exact ht) htj
 ·rw[Bzx]
  intro j hj;have hb:=Bzp.1 (Bzx.1 h.procs j hj);rw[Bzp];refine⟨hb.1,fun y hy=>⟨Jzt (hb.2 y hy).1 fun t ht=>?_,(hb.2 y hy).2⟩⟩;rw[Gzl];split
  ·rename_i hc
   refine hk ?_;rw[hc.1];exact ht
  ·exact ht
theorem KOk.setNod {k:Krn} (h:KOk k) {i:Nat} {x:Nod} (ho:Bz6 k.mods.length x=true) (hk:(k.nodes.getD i default).kind≠0→x.kind≠0)
  (hn:x.name≠noS→Azs x.name=true∧x.kind≠0∧∀ j (hj:j<k.nodes.length),j≠i→k.nodes[j].name≠x.name) (hh:x.kind≠0→x.name=noS→hasE k.procs 1 i=true):KOk (setNod k i x):=by
 refine(h.pre.setNod ho hk hn).ok (fun j hj h1 h2=>?_) h.open_.2;rw[Ezo hj] at h1 h2;by_cases hij:i=j
 ·rw[if_pos hij] at h1 h2
  subst hij;exact hh h1 h2
 ·rw[if_neg hij] at h1 h2
  exact h.open_.1 j _ h1 h2
theorem Nz7 {k:Krn} {s:ByteArray} (h:Bzm k s<0):∀ j (hj:j<k.nodes.length),k.nodes[j].kind≠0→k.nodes[j].name≠s:=fun j hj hk hn=>by
 have:=List.any_eq_false.1 (Kzx h) _ (List.getElem_mem hj);simp[hk,Kzl.2 hn] at this
theorem Eze {k:Krn} {s:ByteArray} (h:0≤Bzm k s):∃ i,∃ hi:i<k.nodes.length,Bzm k s=(i:Int)∧k.nodes[i].kind≠0∧k.nodes[i].name=s:=by
 obtain⟨i,hi,he,hp⟩:=Dz0 h;simp only[Bool.and_eq_true,bne_iff_ne,Kzl] at hp;exact⟨i,hi,by rw[Bzm,he];simp,hp⟩
theorem Nzf {k:Krn} (h:KOk k) {s:ByteArray} {x:Nod} (hx:x=⟨noS,1,noS,0⟩∨∃ u,x=⟨noS,2,noS,u⟩):KOk (Cze k s x).1:=by
 unfold Cze;split
 case isFalse=>exact h
 rename_i hs;split
 case isTrue=>exact h
 rename_i h1;split
 case isTrue=>exact h
 rename_i h2;split
 case isTrue=>exact h
 rename_i h3;obtain⟨i,hi,he,hp⟩:=Dz0 (p:=fun x:Nod=>x.kind == 0) (l:=k.nodes) (k:=0) (by unfold Dzm at h3;omega);have hfr:Dzm k=(i:Int):=by unfold Dzm;rw[he];simp
 have hi8:i<8:=by have:=h.l2;omega
 have hp0:k.nodes[i].kind=0:=by simpa using hp
 rw[hfr,Int.toNat_natCast];refine h.setNod ?_ (fun hk=>?_) (fun _=>⟨hs,?_,fun j hj hji=>?_⟩) (fun _ hn=>?_)
 ·rcases hx with rfl|⟨u,rfl⟩
  ·rfl
  ·have h4:¬ (u<0∨(k.mods.length:Int)≤u):=fun e=>h2 ⟨rfl,e⟩
   simp[Bz6,Gzb];omega
 ·rw[Az3 hi] at hk;exact absurd hp0 hk
 ·rcases hx with rfl|⟨u,rfl⟩<;>simp
 ·show k.nodes[j].name≠s
  by_cases hk:k.nodes[j].kind=0
  ·have:=Mz3 ((Bz9 hj).1 (h.nodes j hj)).1.1 hk
   rw[this];intro e;have h0:=Gzk hs;have e':s=noS:=e.symm;rw[e'] at h0;cases h0
  ·exact Nz7 (by omega) j hj hk
 ·have h0:=Gzk hs
  have e':s=noS:=hn;rw[e'] at h0;cases h0
theorem Oze {k:Krn} (h:KOk k) (s:ByteArray):KOk (Kza k s).1:=by
 unfold Kza;split
 ·exact h
 rename_i h1;obtain⟨i,hi,he,hk,_⟩:=Eze (k:=k) (s:=s) (by omega);have hi8:i<8:=by have:=h.l2;omega
 rw[he,Int.toNat_natCast,Az3 hi];refine Kz9 (h.pre.setNod ?_ (fun _=>hk) (fun hn=>absurd rfl hn));have ho:=((Bz9 hi).1 (h.nodes i hi)).1.1;unfold Bz6 at ho ⊢;simp only[if_neg hk] at ho ⊢;exact ho
theorem Rz2 {k:Krn} (h:KOk k) {p:Nat}:KOk (Pz0 k p).1:=by
 refine Kz9 (h.pre.procs_set p _ (Bzp.2 ⟨by simp,fun x hx=>?_⟩));have:=List.eq_of_mem_replicate hx;subst this;exact⟨rfl,fun _=>rfl⟩
theorem Bzw {l:List Opn} (h:0≤Bzc l):∃ i,∃ hi:i<l.length,Bzc l=(i:Int)∧l[i].kind=0:=by
 obtain⟨i,hi,he,hp⟩:=Dz0 h;exact⟨i,hi,by rw[Bzc,he];simp,by simpa using hp⟩
theorem Rzd {k:Krn} (h:KOk k) {p:Nat} (hp:p<4) (hl:(k.procs.getD p default).live=true) (s:ByteArray):KOk (Izx k p s).1:=by
 unfold Izx;split
 case isFalse=>exact h
 split
 case isTrue=>exact h
 rename_i h1;split
 case isTrue=>exact h
 rename_i h2;obtain⟨i,hi,he,hk,_⟩:=Eze (k:=k) (s:=s) (by omega);obtain⟨j,hj,hje,hjk⟩:=Bzw (l:=(k.procs.getD p default).ends) (by omega);have hi8:i<8:=by have:=h.l2;omega
 rw[he,hje,Int.toNat_natCast];refine h.setEnd hp ?_ (fun e=>by rw[hl] at e;cases e) (fun y hy=> .inl ?_)
 ·unfold endOk
  simp only[Int.toNat_natCast];rw[Az3 hi];simp[hk];omega
 ·rw[List.getElem?_eq_getElem hj] at hy
  cases hy
  exact hjk
theorem Kz8 (k:Krn) (p q i:Nat) (x:Opn) (hp:p<k.procs.length):((setEnd k p i x).procs.getD q default).live=(k.procs.getD q default).live:=by
 unfold setEnd;simp only[List.getD_eq_getElem?_getD,List.getElem?_set];by_cases h:p=q
 ·subst h;simp[hp]
 ·simp[h]
theorem Izn {k:Krn} (h:¬ Bzd k<0):∃ i,i<6∧Bzd k=((i:Nat):Int):=by
 obtain⟨i,hi,he,_⟩:=Dz0 (p:=fun i:Nat=> !hasE k.procs 2 i && !hasE k.procs 3 i) (l:=[0,1,2,3,4,5]) (k:=0) (by unfold Bzd at h;omega);exact⟨i,hi,by unfold Bzd;rw[he];simp⟩
theorem Rzg {k:Krn} (h:KOk k) {p:Nat} (hp:p<4) (hl:(k.procs.getD p default).live=true):KOk (Fz9 k p).1:=by
 unfold Fz9;simp only;split
 case isTrue=>exact h
 rename_i h1;obtain⟨n,hn,hne⟩:=Izn (k:=k) (by omega);obtain⟨j,hj,hje,hjk⟩:=Bzw (l:=(k.procs.getD p default).ends) (by omega);rw[hne,hje,Int.toNat_natCast];have hok:∀ (k':Krn) (kd:Int),kd=2∨kd=3→endOk k' ⟨kd,(n:Int),0⟩=true:=fun k' kd hkd=>by
  unfold endOk;rcases hkd with rfl|rfl<;>simp<;>omega
 have hk1:KOk (setEnd k p j ⟨2,(n:Int),0⟩):=h.setEnd hp (hok _ _ (.inl rfl)) (fun e=>by rw[hl] at e;cases e) (fun y hy=> .inl (by rw[List.getElem?_eq_getElem hj] at hy;cases hy;exact hjk));have hl1:((setEnd k p j ⟨2,(n:Int),0⟩).procs.getD p default).live=true:=by rw[Kz8 _ _ _ _ _ (by rw[h.l4];exact hp)];exact hl
 generalize setEnd k p j ⟨2,(n:Int),0⟩=k1 at hk1 hl1;split
 ·exact h
 rename_i h2;obtain⟨j',hj',hje',hjk'⟩:=Bzw (l:=(k1.procs.getD p default).ends) (by omega);rw[hje',Int.toNat_natCast];exact hk1.setEnd hp (hok _ _ (.inr rfl)) (fun e=>by rw[hl1] at e;cases e) (fun y hy=> .inl (by rw[List.getElem?_eq_getElem hj'] at hy;cases hy;exact hjk'))
theorem Rz3 {k:Krn} (h:KOk k) {p:Nat} (hp:p<4):KOk (Izm k p).1:=by
 unfold Izm;split
 ·exact h
 rename_i h1;obtain⟨i,hi,he,hd⟩:=Dz0 (p:=fun p:Prc=> !p.live) (l:=k.procs) (k:=0) (by unfold Dz5 at h1;omega);have hfr:Dz5 k=(i:Int):=by unfold Dz5;rw[he];simp
 have hdd:k.procs[i].live=false:=by simpa using hd
 rw[hfr,Int.toNat_natCast];have hp':p<k.procs.length:=by rw[h.l4];exact hp
 refine h.procs_set i _ ?_ fun hi' kd pl hkd hh=>?_
 ·have hb:=Bzp.1 (Bzx.1 h.procs p hp')
  rw[Az3 hp',Bzp];exact⟨hb.1,fun x hx=>⟨(hb.2 x hx).1,fun e=>by cases e⟩⟩
 ·have hb:=Bzp.1 (Bzx.1 h.procs i hi')
  unfold hasP at hh;obtain⟨x,hx,hk⟩:=List.any_eq_true.1 hh;have:=(hb.2 x hx).2 hdd;simp only[Bool.and_eq_true,beq_iff_eq] at hk;omega
theorem KOk.withMem {k:Krn} (h:KOk k) {m:List Int} (h1:m.length=1024) (h2:m.any oddW=false):KOk { k with mem:=m }:=
 ⟨h.l0,h1,h.l2,h.l3,h.l4,h.mods,h.modd,h2,h.nodes,h.procs,h.pipes⟩
theorem KOk.withPipe {k:Krn} (h:KOk k) {i:Nat} {s:ByteArray} (h1:s.size≤20) (h2:s≠noS→hasE k.procs 2 i=true):KOk { k with pipes:=k.pipes.set i s }:=by
 have hl:(k.pipes.set i s).length=k.pipes.length:=List.length_set ..;refine⟨h.l0,h.l1,h.l2,hl.trans h.l3,h.l4,h.mods,h.modd,h.mem,h.nodes,h.procs,fun j hj=>?_⟩;have hj':j<k.pipes.length:=by rw[←hl];exact hj
 refine Cza.2 ?_;simp only[List.getElem_set];by_cases hij:i=j
 ·rw[if_pos hij];subst hij;exact⟨h1,h2⟩
 ·rw[if_neg hij];exact Cza.1 (h.pipes j hj')
theorem Ozg {l:List Int} (h:l.any oddW=false):∀ x∈l.map Int.toNat,x≤65535:=fun x hx=>by
 obtain⟨y,hy,rfl⟩:=List.mem_map.1 hx;have:=List.any_eq_false.1 h y hy;simp[oddW] at this;omega
theorem Ozf {l:List Nat} (h:∀ x∈l,x≤65535):(l.map fun (x:Nat)=>(x:Int)).any oddW=false:=by
 rw[List.any_eq_false];intro x hx;obtain⟨y,hy,rfl⟩:=List.mem_map.1 hx;have:=h y hy;simp[oddW];omega
theorem Szc {k:Krn} (h:KOk k) (u n:Nat) (hn:n≤65535) (hu:u<8):McOk ⟨0,[],[n,0,0,0,64*u,64*u,63,0],[],k.mem.map Int.toNat⟩:=by
 refine⟨rfl,fun x hx=>?_,Ozg h.mem,by simp,by simp⟩;simp at hx;omega
theorem Hzu {m:Mod} (h:Az7 m=0):verify m.code=0:=by
 unfold Az7 at h;split at h
 ·split at h
  ·cases h
  ·split at h
   ·cases h
   ·exact h
 ·cases h
theorem Kzi {k k':Krn} (h:KOk k) {u n v:Nat} (hn:n≤65535) (hu:u<k.mods.length) (ha:askK k u n=some (v,k')):KOk k'∧k'.mods=k.mods∧v≤65535∧∃ m,k'= { k with mem:=m }:=by
 have hc:Ez7 (k.mods.getD u default).code:=by
  rw[Az3 hu];exact Az5 ((Czw _).1 (Hzu (h.mods _ (List.getElem_mem hu)))).1
 have hm:=Oz4 hc 2000 _ (Szc h u n hn (by have:=h.l0;omega));have hl:=Gz2 (l:=(k.mods.getD u default).code) 2000 ⟨0,[],[n,0,0,0,64*u,64*u,63,0],[],k.mem.map Int.toNat⟩;unfold askK at ha
 revert ha hm hl
 generalize runs (k.mods.getD u default).code 2000 ⟨0,[],[n,0,0,0,64*u,64*u,63,0],[],k.mem.map Int.toNat⟩=r;obtain⟨s,en⟩:=r;intro ha hm hl;simp only at ha hm hl;split at ha
 ·cases ha
  refine⟨h.withMem (by simpa [h.l1] using hl) (Ozf hm.mw),rfl,Gzc hm.rw 0,_,rfl⟩
 ·cases ha
theorem Izd:∀ (l:List UInt8) {k:Krn} (_:KOk k) {u:Nat} (_:u<k.mods.length),KOk (Bzl k u l).2∧∃ m,(Bzl k u l).2= { k with mem:=m }
 | [],k,h,_,_=>⟨h,_,rfl⟩
 | c::r,k,h,u,hu=>by
   have h8:c.toNat<256:=UInt8.toNat_lt c;unfold Bzl;cases ha:askK k u c.toNat with
   | none=>exact⟨h,_,rfl⟩
   | some x=>
     obtain⟨v,k'⟩:=x;obtain⟨h1,h2,_,m,h3⟩:=Kzi h (by omega) hu ha;obtain⟨h4,m',h5⟩:=Izd r h1 (u:=u) (by rw[h2];exact hu);refine⟨h4,m',?_⟩;simp only;rw[h5,h3]
theorem Bz1 (s:ByteArray) (a b:Nat) (hb:b≤s.size):(cutS s a b).size=b - a:=by
 have e1:s.data.toList.length=s.size:=by simp
 show (List.toArray _).size=_;rw[List.size_toArray,List.length_drop,List.length_take,e1];omega
theorem Dzd {k:Krn} {x:Opn} (h:endOk k x=true) (h0:x.kind≠0) (h2:x.kind≠2) (h3:x.kind≠3):x.kind=1∧0≤x.node∧x.node<8∧(k.nodes.getD x.node.toNat default).kind≠0∧0≤x.pos∧x.pos≤100:=by
 unfold endOk at h;rw[if_neg h0] at h;by_cases k1:x.kind=1
 ·rw[if_pos k1] at h
  simp only[Bool.and_eq_true,decide_eq_true_eq,bne_iff_ne] at h;exact⟨k1,h.1.1.1,h.1.1.2,h.1.2,h.2.1,h.2.2⟩
 ·rw[if_neg k1,if_neg (by omega)] at h;cases h
theorem Fza {k:Krn} {x:Opn} (h:endOk k x=true) (h2:x.kind=2∨x.kind=3):0≤x.node∧x.node<6∧x.pos=0:=by
 unfold endOk at h;rw[if_neg (by omega),if_neg (by omega),if_pos h2] at h;simp only[Bool.and_eq_true,decide_eq_true_eq,beq_iff_eq] at h;exact⟨h.1.1,h.1.2,h.2⟩
theorem Dzs {n:Nat} {x:Nod} (h:Bz6 n x=true) (hk:x.kind=2):0≤x.unit∧x.unit<n∧x.data=noS:=by
 unfold Bz6 at h;rw[if_neg (by omega),if_neg (by omega),if_pos hk] at h;simp only[Bool.and_eq_true,decide_eq_true_eq,Czj] at h;exact⟨h.1.2,h.2,h.1.1⟩
theorem Czb {n:Nat} {x:Nod} (h:Bz6 n x=true) (h0:x.kind≠0) (h2:x.kind≠2):x.kind=1∧x.unit=0∧x.data.size≤100:=by
 unfold Bz6 at h;rw[if_neg h0] at h;by_cases h1:x.kind=1
 ·rw[if_pos h1] at h
  simp only[Bool.and_eq_true,decide_eq_true_eq,beq_iff_eq] at h;exact⟨h1,h.1,h.2⟩
 ·rw[if_neg h1,if_neg h2] at h;cases h
theorem Rz4 {k:Krn} {p i:Nat} {x:Opn} (hp:p<k.procs.length) (hx:(k.procs.getD p default).ends[i]? =some x):hasE k.procs x.kind x.node=true:=by
 rw[Az3 hp] at hx;exact Kzu.2 ⟨_,List.getElem_mem hp,x,List.mem_of_getElem? hx,rfl,rfl⟩
theorem getD_some {α:Type} [Inhabited α] {l:List α} {i:Nat} (h:i<l.length):l[i]? =some (l.getD i default):=by
 rw[Az3 h,List.getElem?_eq_getElem h]
theorem Rzv {k:Krn} (h:KOk k) {p i:Nat} (hp:p<4) (hi:i<6) (hl:(k.procs.getD p default).live=true) (many:Int) (hk0:((k.procs.getD p default).ends.getD i default).kind≠0) (hk3:((k.procs.getD p default).ends.getD i default).kind≠3):KOk (Bzu k p i many).1:=by
 have hx:=Cz6 h (i:=i) hp;have hxs:=getD_some (l:=(k.procs.getD p default).ends) (i:=i) (by rw[Bzb h hp];exact hi);unfold Bzu;simp only
 revert hx hxs hk0 hk3
 generalize hxx:(k.procs.getD p default).ends.getD i default=x;intro hk0 hk3 hx hxs;split
 ·exact h
 rename_i h1;split
 ·rename_i h2
  have hq:=Fza hx (.inl h2);split
  ·exact h
  ·rename_i h3
   have hsz:(k.pipes.getD x.node.toNat noS).size≤20:=by
    have hlt:x.node.toNat<k.pipes.length:=by rw[h.l3];omega
    rw[List.getD_eq_getElem?_getD,List.getElem?_eq_getElem hlt];exact(Cza.1 (h.pipes _ hlt)).1
   refine h.withPipe (by rw[Bz1 _ _ _ (Nat.le_refl _)];omega) fun _=>?_
   have:=Rz4 (k:=k) (p:=p) (i:=i) (by rw[h.l4];exact hp) hxs;rw[h2] at this;rw[show ((x.node.toNat:Nat):Int)=x.node by omega];exact this
 ·rename_i h2
  obtain⟨q1,q2,q3,q4,q5,q6⟩:=Dzd hx hk0 h2 hk3;have hno:=Ezl h (i:=x.node.toNat) (by omega);generalize hdd:k.nodes.getD x.node.toNat default=d at hno q4;split
  ·rename_i hd
   obtain⟨u1,u2,_⟩:=Dzs hno hd;cases ha:askK k d.unit.toNat 256 with
   | none=>exact h
   | some y=>
     obtain⟨v,k'⟩:=y;exact(Kzi h (by omega) (by omega) ha).1
  ·rename_i hd
   obtain⟨_,_,hsz⟩:=Czb hno q4 hd;split
   ·exact h
   ·rename_i h3
    refine h.setEnd hp ?_ (fun e=>by rw[hl] at e;cases e) (fun y hy=> .inr ?_)
    ·unfold endOk
     simp only;rw[if_neg (by omega),if_pos q1,hdd];simp[q4];omega
    ·rw[hxs] at hy
     cases hy
     exact⟨rfl,rfl⟩
theorem Lz7 {d s:List UInt8} {pos:Nat}:(overS d s pos).length=pos+s.length+(d.length - (pos+s.length)):=by
 unfold overS;simp only[List.length_append,List.length_take,List.length_replicate,List.length_drop];omega
theorem Qz2 {k:Krn} (h:KOk k) {p i:Nat} (hp:p<4) (hi:i<6) (hl:(k.procs.getD p default).live=true) (s:ByteArray) (hk0:((k.procs.getD p default).ends.getD i default).kind≠0) (hk2:((k.procs.getD p default).ends.getD i default).kind≠2):KOk (Azh k p i s).1:=by
 have hx:=Cz6 h (i:=i) hp;have hxs:=getD_some (l:=(k.procs.getD p default).ends) (i:=i) (by rw[Bzb h hp];exact hi);unfold Azh;simp only
 revert hx hxs hk0 hk2
 generalize hxx:(k.procs.getD p default).ends.getD i default=x;intro hk0 hk2 hx hxs;split
 ·exact h
 rename_i h1;split
 ·rename_i h3
  have hq:=Fza hx (.inr h3);split
  ·exact h
  ·rename_i h4
   split
   ·exact h
   ·rename_i h5
    refine h.withPipe ?_ fun _=>?_
    ·have e1:(k.pipes.getD x.node.toNat noS).data.toList.length=(k.pipes.getD x.node.toNat noS).size:=by simp
     have hsz:(k.pipes.getD x.node.toNat noS).size≤20:=by
      have hlt:x.node.toNat<k.pipes.length:=by rw[h.l3];omega
      rw[List.getD_eq_getElem?_getD,List.getElem?_eq_getElem hlt];exact(Cza.1 (h.pipes _ hlt)).1
     show (List.toArray _).size≤20;rw[List.size_toArray,List.length_append,List.length_take,e1];omega
    ·rw[Bool.not_eq_false] at h4
     rw[show ((x.node.toNat:Nat):Int)=x.node by omega];exact h4
 ·rename_i h3
  obtain⟨q1,q2,q3,q4,q5,q6⟩:=Dzd hx hk0 hk2 h3;have hno:=Ezl h (i:=x.node.toNat) (by omega);have hnl:x.node.toNat<k.nodes.length:=by rw[h.l2];omega
  generalize hdd:k.nodes.getD x.node.toNat default=d at hno q4;split
  ·rename_i hd
   obtain⟨u1,u2,_⟩:=Dzs hno hd;have:=(Izd s.data.toList h (u:=d.unit.toNat) (by omega)).1;split
   ·exact this
   ·exact this
  ·rename_i hd
   obtain⟨z1,z2,hsz⟩:=Czb hno q4 hd;split
   ·exact h
   ·rename_i h5
    have hdl:d.data.data.toList.length=d.data.size:=by simp
    have hk1:KOk (setNod k x.node.toNat { d with data:=⟨(overS d.data.data.toList (s.data.toList.take (min s.size (100 - x.pos.toNat))) x.pos.toNat).toArray⟩ }):=by
     refine h.setNod ?_ (fun _=>q4) (fun hn=>?_) (fun _ hn=>?_)
     ·unfold Bz6
      simp only;rw[if_neg q4,if_pos z1];simp only[Bool.and_eq_true,decide_eq_true_eq,beq_iff_eq];refine⟨z2,?_⟩;show (List.toArray _).size≤100;rw[List.size_toArray,Lz7,List.length_take];omega
     ·have hb:=((Bz9 hnl).1 (h.nodes _ hnl)).1.2
      rw[Az3 hnl] at hdd;rw[hdd] at hb;obtain⟨b1,b2,b3⟩:=hb hn;refine⟨b1,b2,fun j hj hji=>?_⟩;rcases Nat.lt_or_ge j x.node.toNat with hlt|hge
      ·exact b3 j hj hlt
      ·intro e
       have hbj:=((Bz9 hj).1 (h.nodes _ hj)).1.2;have hne:k.nodes[j].name≠noS:=by rw[e];exact hn
       have:=(hbj hne).2.2 x.node.toNat hnl (by omega);rw[hdd] at this;exact this e.symm
     ·have hb:=((Bz9 hnl).1 (h.nodes _ hnl)).2
      rw[Az3 hnl] at hdd;rw[hdd] at hb;exact hb q4 hn
    refine hk1.setEnd hp ?_ (fun e=>by
     have e':(k.procs.getD p default).live=false:=e;rw[hl] at e';cases e') (fun y hy=> .inr ?_)
    ·unfold endOk
     simp only;rw[if_neg (by omega),if_pos q1,Gzl];simp[hnl,q4];omega
    ·have hy':(k.procs.getD p default).ends[i]? =some y:=hy
     rw[hxs] at hy';cases hy'
     exact⟨rfl,rfl⟩
theorem Lzy {k:Krn} (h:KOk k) (s:ByteArray):KOk (Bzf k s).1:=by
 unfold Bzf;cases hd:decE s.data.toList Az7 with
 | mk o e=>
   cases o with
   | none=>exact h
   | some m=>
     simp only;split
     ·exact h
     rename_i h1;split
     ·exact h
     rename_i h2;have hm:=(Gza hd).1;have hl0:=h.l0;have hml:m.data.length≤64∧m.data.any oddW=false:=by
      unfold Az7 at hm;split at hm
      ·split at hm
       ·cases hm
       ·split at hm
        ·cases hm
        ·rename_i a b;exact⟨by omega,by simpa using b⟩
      ·cases hm
     refine KPre.ok ⟨by simp;omega,?_,h.l2,h.l3,h.l4,fun x hx=>?_,?_,?_,fun i hi=>?_,h.procs,h.pre.pipes⟩ h.open_.1 h.open_.2
     ·simp only[List.length_append,List.length_take,List.length_replicate,List.length_drop,h.l1]
      omega
     ·rcases List.mem_append.1 hx with h3|h3
      ·exact h.mods x h3
      ·obtain rfl:x=m:=by simpa using h3
       exact hm
     ·rw[List.pairwise_append]
      refine⟨h.modd,by simp,fun a ha b hb=>?_⟩;obtain rfl:b=m:=by simpa using hb
      have:=List.any_eq_false.1 (by simpa using h1) a ha
      simpa using this
     ·rw[List.any_append,List.any_append,List.any_append]
      have hw:=List.any_eq_false.1 h.mem;have ht:(k.mem.take (64*k.mods.length)).any oddW=false:=List.any_eq_false.2 fun x hx=>hw x (List.mem_of_mem_take hx)
      have hdr:(k.mem.drop (64*k.mods.length+64)).any oddW=false:=List.any_eq_false.2 fun x hx=>hw x (List.mem_of_mem_drop hx)
      have hrep:(List.replicate (64 - m.data.length) (0:Int)).any oddW=false:=List.any_eq_false.2 fun x hx=>by
       have:=List.eq_of_mem_replicate hx;subst this;decide
      rw[ht,hdr,hrep,hml.2];rfl
     ·obtain⟨a,b⟩:=h.pre.nodes i hi
      refine⟨?_,b⟩;show Bz6 (k.mods++ [m]).length _=true;rw[List.length_append];unfold Bz6 at a ⊢;by_cases k0:k.nodes[i].kind=0
      ·rw[if_pos k0] at a ⊢;exact a
      rw[if_neg k0] at a ⊢;by_cases k1:k.nodes[i].kind=1
      ·rw[if_pos k1] at a ⊢;exact a
      rw[if_neg k1] at a ⊢;by_cases k2:k.nodes[i].kind=2
      ·rw[if_pos k2] at a ⊢
       simp only[Bool.and_eq_true,decide_eq_true_eq] at a ⊢;exact⟨a.1,by simp;omega⟩
      ·rw[if_neg k2] at a;cases a
theorem Tza {k:Krn} (h:KOk k) (a:Akt) (ha:1≤a.kind∧a.kind≤11):KOk (doK k a).1:=by
 unfold doK;split
 ·exact Lzy h _
 split
 ·exact Nzf h (.inl rfl)
 split
 ·exact Nzf h (.inr ⟨_,rfl⟩)
 split
 ·exact Oze h _
 split
 case isFalse=>exact h
 rename_i hc;obtain⟨c1,c2,hl⟩:=hc;have hp:a.p.toNat<4:=by omega
 unfold byK;split
 ·exact Rzd h hp hl _
 split
 ·exact Rzg h hp hl
 split
 ·exact Rz3 h hp
 split
 ·exact Rz2 h
 simp only;split
 ·exact h
 rename_i hn;split
 ·refine Kz9 (h.pre.setEnd hp rfl (fun _=>rfl))
 split
 ·exact h
 rename_i hrw;split
 ·rename_i h7
  exact Rzv h hp (by omega) hl _ (by omega) (by omega)
 ·rename_i h7
  have h8:a.kind=8:=by omega
  exact Qz2 h hp (by omega) hl _ (by omega) (by omega)
set_option linter.unusedVariables false
set_option linter.unusedSimpArgs false
theorem PrcRows.of_at {w:World} {B:Nat}:∀ {l:List Prc} {es:List Value},es.length=l.length→(∀ (k:Nat) (h:k<l.length) (h':k<es.length),w.ownsRow B 54 3 es[k] l[k].ends.length (Azg l[k].ends))→PrcRows w B l es
 | [],[],_,_=>trivial
 | _::_,_::_,hl,h=>⟨h 0 (by simp) (by simp),PrcRows.of_at (by simpa using hl) fun k hk hk'=>h (k+1) (by simpa using hk) (by simpa using hk')⟩
 | [],_::_,h,_=>by simp at h
 | _::_,[],h,_=>by simp at h
theorem Rz0 {es:List Value} (h:es.Pairwise fun x y=>x.ownBlock=none∨x.ownBlock≠y.ownBlock) {i j:Nat} (hi:i<es.length) (hj:j<es.length) (hne:i≠j) {b:Nat} (hb:es[i].ownBlock=some b):es[j].ownBlock≠some b:=by
 rw[List.pairwise_iff_getElem] at h;rcases Nat.lt_or_gt_of_ne hne with hlt|hlt
 ·rcases h i j hi hj hlt with h1|h1
  ·rw[hb] at h1;cases h1
  ·rw[hb] at h1;exact fun e=>h1 e.symm
 ·rcases h j i hj hi hlt with h1|h1
  ·rw[h1];simp
  ·rw[hb] at h1;exact h1
section
variable {B:Nat} {w w':World} {g b i:Nat} {a:KA} {k:Krn} {ms:List (Value × Value)} {es:List Value}
theorem KS.tch {t:TypeId} (h:KS B w g a k ms es) (ht:Tch t w w') (n0:47≠t) (n1:3≠t) (n2:49≠t) (n3:9≠t) (n4:52≠t) (n5:104≠t) (n6:54≠t) (nk:30≠t):KS B w' g a k ms es:=
 ⟨h.lo,h.blk.tch ht nk,h.cp.tch ht n0 n1 n2 n3 n4 n5 n6,h.fits⟩
theorem KS.ans {r o:Nat} {cs:Array Value} (h:KS B w g a k ms es) (hr:Blk w r 36 cs) (u:Value):KS B (w.setCell ⟨r,o,none⟩ u) g a k ms es:=
 h.tch (Tch.of_set (p:=⟨r,o,none⟩) hr u) (by decide) (by decide) (by decide) (by decide) (by decide) (by decide) (by decide) (by decide)
theorem KS.ans3 {r:Nat} {cs:Array Value} (h:KS B w g a k ms es) (hr:Blk w r 36 cs) (hB:B≤r) (u0 u1 u2:Value):KS B (((w.setCell ⟨r,0,none⟩ u0).setCell ⟨r,1,none⟩ u1).setCell ⟨r,2,none⟩ u2) g a k ms es∧Below B w (((w.setCell ⟨r,0,none⟩ u0).setCell ⟨r,1,none⟩ u1).setCell ⟨r,2,none⟩ u2):=
 ⟨((h.ans hr u0).ans (hr.set_ 0 u0) u1).ans ((hr.set_ 0 u0).set_ 1 u1) u2,(((Below.refl B w).setCell (p:=⟨r,0,none⟩) hB u0).setCell (p:=⟨r,1,none⟩) hB u1).setCell (p:=⟨r,2,none⟩) hB u2⟩
theorem KS.nodeAll (h:KS B w g a k ms es) (ha:a.a2=some ⟨b,0,none⟩) (hi:i<k.nodes.length) (y:Nod):
  KS B ((((w.setCell ⟨b,i*4,none⟩ (.string y.name)).setCell ⟨b,i*4+1,none⟩ (.int .i64 y.kind)).setCell ⟨b,i*4+2,none⟩ (.string y.data)).setCell ⟨b,i*4+3,none⟩ (.int .i64 y.unit)) g a (setNod k i y) ms es∧
  Fr B w ((((w.setCell ⟨b,i*4,none⟩ (.string y.name)).setCell ⟨b,i*4+1,none⟩ (.int .i64 y.kind)).setCell ⟨b,i*4+2,none⟩ (.string y.data)).setCell ⟨b,i*4+3,none⟩ (.int .i64 y.unit)):=by
 obtain⟨y0,y1,y2,y3⟩:=y;have e:∀ (k':Krn) (z:Nod) (hi:i<k'.nodes.length),∃ hz:i<(setNod k' i z).nodes.length,(setNod k' i z).nodes[i]=z:=fun k' z hi=>⟨by unfold setNod;simpa using hi,by simp[setNod]⟩
 have es:∀ (z z':Nod),setNod (setNod k i z) i z'=setNod k i z':=fun z z'=>by simp[setNod]
 have s1:=h.nodeCell ha hi 0 (by omega) (.string y0) ⟨y0,k.nodes[i].kind,k.nodes[i].data,k.nodes[i].unit⟩ rfl;obtain⟨hi1,g1⟩:=e k ⟨y0,k.nodes[i].kind,k.nodes[i].data,k.nodes[i].unit⟩ hi;have s2:=s1.1.nodeCell ha hi1 1 (by omega) (.int .i64 y1) ⟨y0,y1,k.nodes[i].data,k.nodes[i].unit⟩ (by rw[g1];rfl);rw[es] at s2;obtain⟨hi2,g2⟩:=e k ⟨y0,y1,k.nodes[i].data,k.nodes[i].unit⟩ hi;have s3:=s2.1.nodeCell ha hi2 2 (by omega) (.string y2) ⟨y0,y1,y2,k.nodes[i].unit⟩ (by rw[g2];rfl);rw[es] at s3;obtain⟨hi3,g3⟩:=e k ⟨y0,y1,y2,k.nodes[i].unit⟩ hi;have s4:=s3.1.nodeCell ha hi3 3 (by omega) (.int .i64 y3) ⟨y0,y1,y2,y3⟩ (by rw[g3];rfl);rw[es] at s4;exact⟨s4.1,((s1.2.trans s2.2).trans s3.2).trans s4.2⟩
theorem KS.nodeName (h:KS B w g a k ms es) (ha:a.a2=some ⟨b,0,none⟩) (hi:i<k.nodes.length) (s:ByteArray):
  KS B (w.setCell ⟨b,i*4,none⟩ (.string s)) g a (setNod k i { k.nodes[i] with name:=s }) ms es∧Fr B w (w.setCell ⟨b,i*4,none⟩ (.string s)):=
 h.nodeCell ha hi 0 (by omega) (.string s) _ rfl
theorem KS.nodeData (h:KS B w g a k ms es) (ha:a.a2=some ⟨b,0,none⟩) (hi:i<k.nodes.length) (s:ByteArray):
  KS B (w.setCell ⟨b,i*4+2,none⟩ (.string s)) g a (setNod k i { k.nodes[i] with data:=s }) ms es∧Fr B w (w.setCell ⟨b,i*4+2,none⟩ (.string s)):=
 h.nodeCell ha hi 2 (by omega) (.string s) _ rfl
theorem KS.endCell {p c:Nat} (h:KS B w g a k ms es) (hp:p<k.procs.length) (hp':p<es.length) (he:es[p]= .slice (some ⟨b,0,none⟩) k.procs[p].ends.length c) (hi:i<k.procs[p].ends.length) (j:Nat) (hj:j<3) (u:Value) (y:Opn)
  (hy:[Value.int .i64 y.kind, .int .i64 y.node, .int .i64 y.pos]=[Value.int .i64 k.procs[p].ends[i].kind, .int .i64 k.procs[p].ends[i].node, .int .i64 k.procs[p].ends[i].pos].set j u):
  KS B (w.setCell ⟨b,i*3+j,none⟩ u) g a (setEnd k p i y) ms es∧Fr B w (w.setCell ⟨b,i*3+j,none⟩ u):=by
 have hown:=h.cp.ends.at_ p hp hp';rw[he] at hown;have hbb:B≤b:=(hown.lt b rfl).1;obtain⟨h1,ht⟩:=Czc hown (i*3+j) u;have hgd:k.procs.getD p default=k.procs[p]:=Az3 hp;have hc:Azg (k.procs[p].ends.set i y)=(Azg k.procs[p].ends).set (i*3+j) u:=Hzo _ 3 (fun _=>rfl) _ _ hi j hj u y hy;have hse:setEnd k p i y= { k with procs:=k.procs.set p { k.procs[p] with ends:=k.procs[p].ends.set i y } }:=by unfold setEnd;rw[hgd]
 rw[hse];have hl:(k.procs.set p { k.procs[p] with ends:=k.procs[p].ends.set i y }).length=k.procs.length:=List.length_set ..;have hpc:Azq (k.procs.set p { k.procs[p] with ends:=k.procs[p].ends.set i y }) es=Azq k.procs es:=by
  have:∀ (l:List Prc) (es:List Value) (p:Nat) (h:p<l.length) (e:List Opn),Azq (l.set p { l[p] with ends:=e }) es=Azq l es:=by
   intro l
   induction l with
   | nil=>intro es p h;cases h
   | cons x r ih=>
     intro es p h e;cases es with
     | nil=>cases p<;>rfl
     | cons v s=>
       cases p with
       | zero=>rfl
       | succ p=>
         have:=ih s p (by simpa using h) e;show Value.bool x.live::v::Azq (r.set p _) s=Value.bool x.live::v::Azq r s
         congr 2
  exact this k.procs es p hp _
 refine⟨⟨h.lo,?_,?_,?_⟩, .tch (Czt hbb _ _) ht (by decide)⟩
 ·have:=h.blk.tch ht (by decide)
  unfold KA.cells at this ⊢;simp only;rw[hl];exact this
 ·simp only
  rw[hl];refine⟨Az4 h.cp.mods ht (by decide),h.cp.rows.tch ht (by decide) (by decide),Az4 h.cp.mem ht (by decide),Az4 h.cp.nodes ht (by decide),Az4 h.cp.pipes ht (by decide),by simp only;rw[hl,hpc];exact Az4 h.cp.procs ht (by decide),?_,h.cp.apart,h.cp.each⟩;refine PrcRows.of_at (by simp only;rw[hl];exact h.cp.ends.len) fun q hq hq'=>?_
  have hq0:q<k.procs.length:=by simp only at hq;rw[←hl];exact hq
  simp only[List.getElem_set];by_cases hpq:p=q
  ·subst hpq
   rw[if_pos rfl];simp only[List.length_set];rw[hc,he];exact h1
  ·rw[if_neg hpq]
   exact ownsRow_setCell_other (h.cp.ends.at_ q hq0 hq') (a:=⟨b,i*3+j,none⟩) (Rz0 h.cp.each hp' hq' hpq (by rw[he];rfl)) u
 ·refine Dzy h.fits rfl (fun x hx=>?_) rfl rfl rfl hl
  obtain⟨q,hq,rfl⟩:=List.mem_iff_getElem.1 hx;have hq0:q<k.procs.length:=by simp only at hq;rw[←hl];exact hq
  simp only[List.getElem_set];by_cases hpq:p=q
  ·subst hpq
   rw[if_pos rfl];simp only[List.length_set];exact h.fits.p _ (List.getElem_mem hp)
  ·rw[if_neg hpq]
   exact h.fits.p _ (List.getElem_mem hq0)
theorem Czs {k:Krn} {p i:Nat} (hp:p<k.procs.length) {y:Opn}:setEnd k p i y= { k with procs:=k.procs.set p { k.procs[p] with ends:=k.procs[p].ends.set i y } }:=by
 unfold setEnd;rw[Az3 hp]
theorem Dzw {k:Krn} {p i:Nat} (hp:p<k.procs.length) (hi:i<k.procs[p].ends.length) (y:Opn):∃ hp2:p<(setEnd k p i y).procs.length,∃ hi2:i<((setEnd k p i y).procs[p]).ends.length,((setEnd k p i y).procs[p]).ends[i]=y∧((setEnd k p i y).procs[p]).ends.length=k.procs[p].ends.length:=by
 rw[Czs hp];exact⟨by simpa using hp,by simpa using hi,by simp,by simp⟩
theorem Fzc {k:Krn} {p i:Nat} (hp:p<k.procs.length) (y z:Opn):setEnd (setEnd k p i y) p i z=setEnd k p i z:=by
 unfold setEnd;simp[hp]
theorem KS.endAll {p c:Nat} (h:KS B w g a k ms es) (hp:p<k.procs.length) (hp':p<es.length) (he:es[p]= .slice (some ⟨b,0,none⟩) k.procs[p].ends.length c) (hi:i<k.procs[p].ends.length) (y:Opn):
  KS B (((w.setCell ⟨b,i*3,none⟩ (.int .i64 y.kind)).setCell ⟨b,i*3+1,none⟩ (.int .i64 y.node)).setCell ⟨b,i*3+2,none⟩ (.int .i64 y.pos)) g a (setEnd k p i y) ms es∧
  Fr B w (((w.setCell ⟨b,i*3,none⟩ (.int .i64 y.kind)).setCell ⟨b,i*3+1,none⟩ (.int .i64 y.node)).setCell ⟨b,i*3+2,none⟩ (.int .i64 y.pos)):=by
 obtain⟨y0,y1,y2⟩:=y;have s1:=h.endCell hp hp' he hi 0 (by omega) (.int .i64 y0) ⟨y0,k.procs[p].ends[i].node,k.procs[p].ends[i].pos⟩ rfl;obtain⟨hp1,hi1,g1,l1⟩:=Dzw hp hi ⟨y0,k.procs[p].ends[i].node,k.procs[p].ends[i].pos⟩;have s2:=s1.1.endCell hp1 hp' (by rw[l1];exact he) hi1 1 (by omega) (.int .i64 y1) ⟨y0,y1,k.procs[p].ends[i].pos⟩ (by rw[g1];rfl);rw[Fzc hp] at s2;obtain⟨hp2,hi2,g2,l2⟩:=Dzw hp hi ⟨y0,y1,k.procs[p].ends[i].pos⟩;have s3:=s2.1.endCell hp2 hp' (by rw[l2];exact he) hi2 2 (by omega) (.int .i64 y2) ⟨y0,y1,y2⟩ (by rw[g2];rfl);rw[Fzc hp] at s3;exact⟨s3.1,(s1.2.trans s2.2).trans s3.2⟩
theorem KS.endPos {p c:Nat} (h:KS B w g a k ms es) (hp:p<k.procs.length) (hp':p<es.length) (he:es[p]= .slice (some ⟨b,0,none⟩) k.procs[p].ends.length c) (hi:i<k.procs[p].ends.length) (n:Int):
  KS B (w.setCell ⟨b,i*3+2,none⟩ (.int .i64 n)) g a (setEnd k p i { k.procs[p].ends[i] with pos:=n }) ms es∧Fr B w (w.setCell ⟨b,i*3+2,none⟩ (.int .i64 n)):=
 h.endCell hp hp' he hi 2 (by omega) (.int .i64 n) _ rfl
end
end Go.Proofs.YtdjamdbamkhblacGreatDoor
