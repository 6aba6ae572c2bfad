/- A kernel that is in order is in order behind each act: plain mathematics. A kernel under way: whole files, open ends, processes, words stored. No condition. A kernel under way: a process's row in memory, a process stored whole, a word stored, a module appended. No condition. The walks of slices.IndexFunc and slices.ContainsFunc at one element type: for every predicate whose calls leave old memory as it was. The walks of slices.IndexFunc and slices.ContainsFunc at one element type: for every predicate whose calls leave old memory as it was. -/
import Derived.Test.YtdjamdbamkhblabGreatDoorG06
import Derived.Test.YtdjamdbamkhblabGreatDoorG05
import Derived.Test.YtdjamdbamkhblabGreatDoorG03
namespace Go.Proofs.YtdjamdbamkhblabGreatDoor
open Go.RowKit
theorem hasE_set {ps:List Prc} {i:Nat} {p':Prc} {kd pl:Int} (h:hasE ps kd pl=true) (hi:∀ (hi:i<ps.length),hasP kd pl ps[i]=true→hasP kd pl p'=true):hasE (ps.set i p') kd pl=true:=by
 unfold hasE at h ⊢;obtain⟨p,hp,hx⟩:=List.any_eq_true.1 h;obtain⟨j,hj,rfl⟩:=List.mem_iff_getElem.1 hp;rw[List.any_eq_true];by_cases hji:i=j
 ·subst hji
  exact⟨p',List.mem_iff_getElem.2 ⟨i,by simpa using hj,by simp⟩,hi hj hx⟩
 ·exact⟨ps[j],List.mem_iff_getElem.2 ⟨j,by simpa using hj,by rw[List.getElem_set_ne hji]⟩,hx⟩
theorem procs_any_set {k:Krn} {i:Nat} {p':Prc} (h:k.procs.any (prcBad k)=false) (hb:prcBad k p'=false):(k.procs.set i p').any (prcBad k)=false:=by
 rw[List.any_eq_false] at h ⊢;intro x hx;rcases List.mem_or_eq_of_mem_set hx with h1|h1
 ·exact h x h1
 ·subst h1;rw[hb];simp
theorem KPre.procs_set {k:Krn} (h:KPre k) (i:Nat) (p':Prc) (hb:prcBad k p'=false):KPre { k with procs:=k.procs.set i p' }:=
 ⟨h.l0,h.l1,h.l2,h.l3,(List.length_set ..).trans h.l4,h.mods,h.modd,h.mem,h.nodes,procs_any_set h.procs hb,h.pipes⟩
theorem KOk.procs_set {k:Krn} (h:KOk k) (i:Nat) (p':Prc) (hb:prcBad k p'=false) (hm:∀ (hi:i<k.procs.length) kd pl,kd=1∨kd=2→hasP kd pl k.procs[i]=true→hasP kd pl p'=true):KOk { k with procs:=k.procs.set i p' }:=
 KPre.ok (h.pre.procs_set i p' hb) (fun j hj h1 h2=>hasE_set (h.open_.1 j hj h1 h2) fun hi=>hm hi _ _ (.inl rfl)) (fun j hj h1=>hasE_set (h.open_.2 j hj h1) fun hi=>hm hi _ _ (.inr rfl))
theorem getD_eq {α:Type} [Inhabited α] {l:List α} {i:Nat} (h:i<l.length):l.getD i default=l[i]:=by
 rw[List.getD_eq_getElem?_getD,List.getElem?_eq_getElem h];rfl
theorem hasP_set {p:Prc} {i:Nat} {x:Opn} {kd pl:Int} (h:hasP kd pl p=true) (hx:∀ (hi:i<p.ends.length),p.ends[i].kind=kd→p.ends[i].node=pl→x.kind=kd∧x.node=pl):hasP kd pl { p with ends:=p.ends.set i x }=true:=by
 unfold hasP at h ⊢;obtain⟨y,hy,hk⟩:=List.any_eq_true.1 h;obtain⟨j,hj,rfl⟩:=List.mem_iff_getElem.1 hy;rw[List.any_eq_true];simp only[Bool.and_eq_true,beq_iff_eq] at hk;by_cases hji:i=j
 ·subst hji
  exact⟨x,List.mem_iff_getElem.2 ⟨i,by simpa using hj,by simp⟩,by simpa using hx hj hk.1 hk.2⟩
 ·exact⟨p.ends[j],List.mem_iff_getElem.2 ⟨j,by simpa using hj,by rw[List.getElem_set_ne hji]⟩,by simpa using hk⟩
theorem prcBad_set {k:Krn} {p:Prc} {i:Nat} {x:Opn} (h:prcBad k p=false) (hx:endOk k x=true) (hl:p.live=false→x.kind=0):prcBad k { p with ends:=p.ends.set i x }=false:=by
 rw[prcBad_iff] at h ⊢;refine⟨(List.length_set ..).trans h.1,fun y hy=>?_⟩;rcases List.mem_or_eq_of_mem_set hy with h1|h1
 ·exact h.2 y h1
 ·subst h1;exact⟨hx,hl⟩
theorem KPre.setEnd {k:Krn} (h:KPre k) {p i:Nat} {x:Opn} (hp:p<4) (hx:endOk k x=true) (hl:(k.procs.getD p default).live=false→x.kind=0):KPre (setEnd k p i x):=by
 have hp':p<k.procs.length:=by rw[h.l4];exact hp
 refine h.procs_set p _ (prcBad_set ?_ hx hl);rw[getD_eq hp'];exact procs_iff.1 h.procs p hp'
theorem KOk.setEnd {k:Krn} (h:KOk k) {p i:Nat} {x:Opn} (hp:p<4) (hx:endOk k x=true) (hl:(k.procs.getD p default).live=false→x.kind=0)
  (hs:∀ y,(k.procs.getD p default).ends[i]? =some y→y.kind=0∨(x.kind=y.kind∧x.node=y.node)):KOk (setEnd k p i x):=by
 have hp':p<k.procs.length:=by rw[h.l4];exact hp
 refine h.procs_set p _ (prcBad_set ?_ hx hl) fun hi kd pl hkd hh=>?_
 ·rw[getD_eq hp']
  exact procs_iff.1 h.procs p hp'
 ·rw[getD_eq hp'] at hs ⊢
  refine hasP_set hh fun hi2 h1 h2=>?_
  rcases hs _ (List.getElem?_eq_getElem hi2) with h3|h3
  ·omega
  ·exact⟨h3.1.trans h1,h3.2.trans h2⟩
theorem ends_ok {k:Krn} (h:KOk k) {p i:Nat} (hp:p<4):endOk k ((k.procs.getD p default).ends.getD i default)=true:=by
 have hp':p<k.procs.length:=by rw[h.l4];exact hp
 rw[getD_eq hp'];have hb:=prcBad_iff.1 (procs_iff.1 h.procs p hp');by_cases hi:i<k.procs[p].ends.length
 ·rw[getD_eq hi]
  exact(hb.2 _ (List.getElem_mem hi)).1
 ·rw[List.getD_eq_getElem?_getD,List.getElem?_eq_none (by omega)]
  rfl
theorem ends_len {k:Krn} (h:KOk k) {p:Nat} (hp:p<4):(k.procs.getD p default).ends.length=6:=by
 have hp':p<k.procs.length:=by rw[h.l4];exact hp
 rw[getD_eq hp'];exact(prcBad_iff.1 (procs_iff.1 h.procs p hp')).1
theorem nod_ok {k:Krn} (h:KOk k) {i:Nat} (hi:i<8):nodOk k.mods.length (k.nodes.getD i default)=true:=by
 have hi':i<k.nodes.length:=by rw[h.l2];exact hi
 rw[getD_eq hi'];exact((nodBad_iff hi').1 (h.nodes i hi')).1.1
theorem endOk_nodes {k k':Krn} {x:Opn} (h:endOk k x=true) (hn:∀ j,(k.nodes.getD j default).kind≠0→(k'.nodes.getD j default).kind≠0):endOk k' x=true:=by
 unfold endOk at h ⊢;by_cases k0:x.kind=0
 ·rw[if_pos k0] at h ⊢;exact h
 rw[if_neg k0] at h ⊢;by_cases k1:x.kind=1
 ·rw[if_pos k1] at h ⊢
  simp only[Bool.and_eq_true,decide_eq_true_eq,bne_iff_ne] at h ⊢;exact⟨⟨h.1.1,hn _ h.1.2⟩,h.2⟩
 rw[if_neg k1] at h ⊢;exact h
theorem setNod_getD (k:Krn) (i j:Nat) (x:Nod):(setNod k i x).nodes.getD j default=if i=j∧j<k.nodes.length then x else k.nodes.getD j default:=by
 unfold setNod;simp only[List.getD_eq_getElem?_getD,List.getElem?_set];by_cases h:i=j
 ·subst h
  by_cases h2:i<k.nodes.length<;>simp[h2]
 ·simp[h]
theorem setNod_at {k:Krn} {i j:Nat} {x:Nod} (hj:j<(setNod k i x).nodes.length):(setNod k i x).nodes[j]=if i=j then x else k.nodes[j]'(by simpa [setNod] using hj):=by
 unfold setNod at hj ⊢;simp only[List.getElem_set]
theorem KPre.setNod {k:Krn} (h:KPre k) {i:Nat} {x:Nod} (ho:nodOk k.mods.length x=true) (hk:(k.nodes.getD i default).kind≠0→x.kind≠0)
  (hn:x.name≠noS→nameOk x.name=true∧x.kind≠0∧∀ j (hj:j<k.nodes.length),j≠i→k.nodes[j].name≠x.name):KPre (setNod k i x):=by
 have hl:(YtdjamdbamkhblabGreatDoor.setNod k i x).nodes.length=k.nodes.length:=by simp[YtdjamdbamkhblabGreatDoor.setNod]
 refine⟨h.l0,h.l1,hl.trans h.l2,h.l3,h.l4,h.mods,h.modd,h.mem,fun j hj=>?_,?_,h.pipes⟩
 ·have hj':j<k.nodes.length:=by rw[hl] at hj;exact hj
  rw[setNod_at hj];by_cases hij:i=j
  ·rw[if_pos hij]
   refine⟨ho,fun hne=>⟨(hn hne).1,(hn hne).2.1,fun t ht htj=>?_⟩⟩;rw[setNod_at ht,if_neg (by omega)];exact(hn hne).2.2 t (by rw[hl] at ht;exact ht) (by omega)
  ·rw[if_neg hij]
   obtain⟨a,b⟩:=h.nodes j hj';refine⟨a,fun hne=>⟨(b hne).1,(b hne).2.1,fun t ht htj=>?_⟩⟩;rw[setNod_at ht];by_cases hit:i=t
   ·rw[if_pos hit]
    by_cases hx:x.name=noS
    ·rw[hx];exact fun e=>hne e.symm
    ·exact fun e=>(hn hx).2.2 j hj' (fun e'=>hij e'.symm) e.symm
   ·rw[if_neg hit]
    exact(b hne).2.2 t (by rw[hl] at ht;exact ht) htj
 ·rw[procs_iff]
  intro j hj;have hb:=prcBad_iff.1 (procs_iff.1 h.procs j hj);rw[prcBad_iff];refine⟨hb.1,fun y hy=>⟨endOk_nodes (hb.2 y hy).1 fun t ht=>?_,(hb.2 y hy).2⟩⟩;rw[setNod_getD];split
  ·rename_i hc
   refine hk ?_;rw[hc.1];exact ht
  ·exact ht
theorem KOk.setNod {k:Krn} (h:KOk k) {i:Nat} {x:Nod} (ho:nodOk k.mods.length x=true) (hk:(k.nodes.getD i default).kind≠0→x.kind≠0)
  (hn:x.name≠noS→nameOk x.name=true∧x.kind≠0∧∀ j (hj:j<k.nodes.length),j≠i→k.nodes[j].name≠x.name) (hh:x.kind≠0→x.name=noS→hasE k.procs 1 i=true):KOk (setNod k i x):=by
 refine(h.pre.setNod ho hk hn).ok (fun j hj h1 h2=>?_) h.open_.2;rw[setNod_at hj] at h1 h2;by_cases hij:i=j
 ·rw[if_pos hij] at h1 h2
  subst hij;exact hh h1 h2
 ·rw[if_neg hij] at h1 h2
  exact h.open_.1 j _ h1 h2
theorem findK_pos {k:Krn} {s:ByteArray} (h:0≤findK k s):∃ i,∃ hi:i<k.nodes.length,findK k s=(i:Int)∧k.nodes[i].kind≠0∧k.nodes[i].name=s:=by
 obtain⟨i,hi,he,hp⟩:=idxF_pos h;simp only[Bool.and_eq_true,bne_iff_ne,bs_beq] at hp;exact⟨i,hi,by rw[findK,he];simp,hp⟩
theorem freeE_pos {l:List Opn} (h:0≤freeE l):∃ i,∃ hi:i<l.length,freeE l=(i:Int)∧l[i].kind=0:=by
 obtain⟨i,hi,he,hp⟩:=idxF_pos h;exact⟨i,hi,by rw[freeE,he];simp,by simpa using hp⟩
theorem KOk.withMem {k:Krn} (h:KOk k) {m:List Int} (h1:m.length=1024) (h2:m.any oddW=false):KOk { k with mem:=m }:=
 ⟨h.l0,h1,h.l2,h.l3,h.l4,h.mods,h.modd,h2,h.nodes,h.procs,h.pipes⟩
theorem words_nat {l:List Int} (h:l.any oddW=false):∀ x∈l.map Int.toNat,x≤65535:=fun x hx=>by
 obtain⟨y,hy,rfl⟩:=List.mem_map.1 hx;have:=List.any_eq_false.1 h y hy;simp[oddW] at this;omega
theorem words_int {l:List Nat} (h:∀ x∈l,x≤65535):(l.map fun (x:Nat)=>(x:Int)).any oddW=false:=by
 rw[List.any_eq_false];intro x hx;obtain⟨y,hy,rfl⟩:=List.mem_map.1 hx;have:=h y hy;simp[oddW];omega
theorem ask_mc {k:Krn} (h:KOk k) (u n:Nat) (hn:n≤65535) (hu:u<8):McOk ⟨0,[],[n,0,0,0,64*u,64*u,63,0],[],k.mem.map Int.toNat⟩:=by
 refine⟨rfl,fun x hx=>?_,words_nat h.mem,by simp,by simp⟩;simp at hx;omega
theorem mod_code {m:Mod} (h:modCheck m=0):verify m.code=0:=by
 unfold modCheck at h;split at h
 ·split at h
  ·cases h
  ·split at h
   ·cases h
   ·exact h
 ·cases h
theorem ask_ok {k k':Krn} (h:KOk k) {u n v:Nat} (hn:n≤65535) (hu:u<k.mods.length) (ha:askK k u n=some (v,k')):KOk k'∧k'.mods=k.mods∧v≤65535∧∃ m,k'= { k with mem:=m }:=by
 have hc:CodeOk (k.mods.getD u default).code:=by
  rw[getD_eq hu];exact codeOk_of_check ((verify_zero_iff _).1 (mod_code (h.mods _ (List.getElem_mem hu)))).1
 have hm:=runs_ok hc 2000 _ (ask_mc h u n hn (by have:=h.l0;omega));have hl:=runs_mem (l:=(k.mods.getD u default).code) 2000 ⟨0,[],[n,0,0,0,64*u,64*u,63,0],[],k.mem.map Int.toNat⟩;unfold askK at ha
 revert ha hm hl
 generalize runs (k.mods.getD u default).code 2000 ⟨0,[],[n,0,0,0,64*u,64*u,63,0],[],k.mem.map Int.toNat⟩=r;obtain⟨s,en⟩:=r;intro ha hm hl;simp only at ha hm hl;split at ha
 ·cases ha
  refine⟨h.withMem (by simpa [h.l1] using hl) (words_int hm.mw),rfl,getD_le hm.rw 0,_,rfl⟩
 ·cases ha
theorem cutS_size (s:ByteArray) (a b:Nat) (hb:b≤s.size):(cutS s a b).size=b - a:=by
 have e1:s.data.toList.length=s.size:=by simp
 show (List.toArray _).size=_;rw[List.size_toArray,List.length_drop,List.length_take,e1];omega
theorem node_lt {k:Krn} {x:Opn} (h:endOk k x=true) (h0:x.kind≠0) (h2:x.kind≠2) (h3:x.kind≠3):x.kind=1∧0≤x.node∧x.node<8∧(k.nodes.getD x.node.toNat default).kind≠0∧0≤x.pos∧x.pos≤100:=by
 unfold endOk at h;rw[if_neg h0] at h;by_cases k1:x.kind=1
 ·rw[if_pos k1] at h
  simp only[Bool.and_eq_true,decide_eq_true_eq,bne_iff_ne] at h;exact⟨k1,h.1.1.1,h.1.1.2,h.1.2,h.2.1,h.2.2⟩
 ·rw[if_neg k1,if_neg (by omega)] at h;cases h
theorem pipe_lt {k:Krn} {x:Opn} (h:endOk k x=true) (h2:x.kind=2∨x.kind=3):0≤x.node∧x.node<6∧x.pos=0:=by
 unfold endOk at h;rw[if_neg (by omega),if_neg (by omega),if_pos h2] at h;simp only[Bool.and_eq_true,decide_eq_true_eq,beq_iff_eq] at h;exact⟨h.1.1,h.1.2,h.2⟩
theorem dev_unit {n:Nat} {x:Nod} (h:nodOk n x=true) (hk:x.kind=2):0≤x.unit∧x.unit<n∧x.data=noS:=by
 unfold nodOk at h;rw[if_neg (by omega),if_neg (by omega),if_pos hk] at h;simp only[Bool.and_eq_true,decide_eq_true_eq,empS_iff] at h;exact⟨h.1.2,h.2,h.1.1⟩
theorem plain_data {n:Nat} {x:Nod} (h:nodOk n x=true) (h0:x.kind≠0) (h2:x.kind≠2):x.kind=1∧x.unit=0∧x.data.size≤100:=by
 unfold nodOk at h;rw[if_neg h0] at h;by_cases h1:x.kind=1
 ·rw[if_pos h1] at h
  simp only[Bool.and_eq_true,decide_eq_true_eq,beq_iff_eq] at h;exact⟨h1,h.1,h.2⟩
 ·rw[if_neg h1,if_neg h2] at h;cases h
theorem getD_some {α:Type} [Inhabited α] {l:List α} {i:Nat} (h:i<l.length):l[i]? =some (l.getD i default):=by
 rw[getD_eq h,List.getElem?_eq_getElem h]
theorem over_len {d s:List UInt8} {pos:Nat}:(overS d s pos).length=pos+s.length+(d.length - (pos+s.length)):=by
 unfold overS;simp only[List.length_append,List.length_take,List.length_replicate,List.length_drop];omega
end Go.Proofs.YtdjamdbamkhblabGreatDoor
namespace Go.Proofs.YtdjamdbamkhblabGreatDoor
open Go.RowKit
set_option linter.unusedVariables false
set_option linter.unusedSimpArgs false
theorem PrcRows.of_at {w:World} {B:Nat}:∀ {l:List Prc} {es:List Value},es.length=l.length→(∀ (k:Nat) (h:k<l.length) (h':k<es.length),w.ownsRow B 68 3 es[k] l[k].ends.length (endCells l[k].ends))→PrcRows w B l es
 | [],[],_,_=>trivial
 | _::_,_::_,hl,h=>⟨h 0 (by simp) (by simp),PrcRows.of_at (by simpa using hl) fun k hk hk'=>h (k+1) (by simpa using hk) (by simpa using hk')⟩
 | [],_::_,h,_=>by simp at h
 | _::_,[],h,_=>by simp at h
theorem each_ne {es:List Value} (h:es.Pairwise fun x y=>x.ownBlock=none∨x.ownBlock≠y.ownBlock) {i j:Nat} (hi:i<es.length) (hj:j<es.length) (hne:i≠j) {b:Nat} (hb:es[i].ownBlock=some b):es[j].ownBlock≠some b:=by
 rw[List.pairwise_iff_getElem] at h;rcases Nat.lt_or_gt_of_ne hne with hlt|hlt
 ·rcases h i j hi hj hlt with h1|h1
  ·rw[hb] at h1;cases h1
  ·rw[hb] at h1;exact fun e=>h1 e.symm
 ·rcases h j i hj hi hlt with h1|h1
  ·rw[h1];simp
  ·rw[hb] at h1;exact h1
section
variable {B:Nat} {w w':World} {g b i:Nat} {a:KA} {k:Krn} {ms:List (Value × Value)} {es:List Value}
theorem KS.tch {t:TypeId} (h:KS B w g a k ms es) (ht:Tch t w w') (n0:41≠t) (n1:3≠t) (n2:54≠t) (n3:9≠t) (n4:45≠t) (n5:98≠t) (n6:68≠t) (nk:28≠t):KS B w' g a k ms es:=
 ⟨h.lo,h.blk.tch ht nk,h.cp.tch ht n0 n1 n2 n3 n4 n5 n6,h.fits⟩
theorem KS.ans {r o:Nat} {cs:Array Value} (h:KS B w g a k ms es) (hr:Blk w r 34 cs) (u:Value):KS B (w.setCell ⟨r,o,none⟩ u) g a k ms es:=
 h.tch (Tch.of_set (p:=⟨r,o,none⟩) hr u) (by decide) (by decide) (by decide) (by decide) (by decide) (by decide) (by decide) (by decide)
theorem KS.ans3 {r:Nat} {cs:Array Value} (h:KS B w g a k ms es) (hr:Blk w r 34 cs) (hB:B≤r) (u0 u1 u2:Value):KS B (((w.setCell ⟨r,0,none⟩ u0).setCell ⟨r,1,none⟩ u1).setCell ⟨r,2,none⟩ u2) g a k ms es∧Below B w (((w.setCell ⟨r,0,none⟩ u0).setCell ⟨r,1,none⟩ u1).setCell ⟨r,2,none⟩ u2):=
 ⟨((h.ans hr u0).ans (hr.set_ 0 u0) u1).ans ((hr.set_ 0 u0).set_ 1 u1) u2,(((Below.refl B w).setCell (p:=⟨r,0,none⟩) hB u0).setCell (p:=⟨r,1,none⟩) hB u1).setCell (p:=⟨r,2,none⟩) hB u2⟩
theorem KS.nodeAll (h:KS B w g a k ms es) (ha:a.a2=some ⟨b,0,none⟩) (hi:i<k.nodes.length) (y:Nod):
  KS B ((((w.setCell ⟨b,i*4,none⟩ (.string y.name)).setCell ⟨b,i*4+1,none⟩ (.int .i64 y.kind)).setCell ⟨b,i*4+2,none⟩ (.string y.data)).setCell ⟨b,i*4+3,none⟩ (.int .i64 y.unit)) g a (setNod k i y) ms es∧
  Fr B w ((((w.setCell ⟨b,i*4,none⟩ (.string y.name)).setCell ⟨b,i*4+1,none⟩ (.int .i64 y.kind)).setCell ⟨b,i*4+2,none⟩ (.string y.data)).setCell ⟨b,i*4+3,none⟩ (.int .i64 y.unit)):=by
 obtain⟨y0,y1,y2,y3⟩:=y;have e:∀ (k':Krn) (z:Nod) (hi:i<k'.nodes.length),∃ hz:i<(setNod k' i z).nodes.length,(setNod k' i z).nodes[i]=z:=fun k' z hi=>⟨by unfold setNod;simpa using hi,by simp[setNod]⟩
 have es:∀ (z z':Nod),setNod (setNod k i z) i z'=setNod k i z':=fun z z'=>by simp[setNod]
 have s1:=h.nodeCell ha hi 0 (by omega) (.string y0) ⟨y0,k.nodes[i].kind,k.nodes[i].data,k.nodes[i].unit⟩ rfl;obtain⟨hi1,g1⟩:=e k ⟨y0,k.nodes[i].kind,k.nodes[i].data,k.nodes[i].unit⟩ hi;have s2:=s1.1.nodeCell ha hi1 1 (by omega) (.int .i64 y1) ⟨y0,y1,k.nodes[i].data,k.nodes[i].unit⟩ (by rw[g1];rfl);rw[es] at s2;obtain⟨hi2,g2⟩:=e k ⟨y0,y1,k.nodes[i].data,k.nodes[i].unit⟩ hi;have s3:=s2.1.nodeCell ha hi2 2 (by omega) (.string y2) ⟨y0,y1,y2,k.nodes[i].unit⟩ (by rw[g2];rfl);rw[es] at s3;obtain⟨hi3,g3⟩:=e k ⟨y0,y1,y2,k.nodes[i].unit⟩ hi;have s4:=s3.1.nodeCell ha hi3 3 (by omega) (.int .i64 y3) ⟨y0,y1,y2,y3⟩ (by rw[g3];rfl);rw[es] at s4;exact⟨s4.1,((s1.2.trans s2.2).trans s3.2).trans s4.2⟩
theorem KS.nodeName (h:KS B w g a k ms es) (ha:a.a2=some ⟨b,0,none⟩) (hi:i<k.nodes.length) (s:ByteArray):
  KS B (w.setCell ⟨b,i*4,none⟩ (.string s)) g a (setNod k i { k.nodes[i] with name:=s }) ms es∧Fr B w (w.setCell ⟨b,i*4,none⟩ (.string s)):=
 h.nodeCell ha hi 0 (by omega) (.string s) _ rfl
theorem KS.nodeData (h:KS B w g a k ms es) (ha:a.a2=some ⟨b,0,none⟩) (hi:i<k.nodes.length) (s:ByteArray):
  KS B (w.setCell ⟨b,i*4+2,none⟩ (.string s)) g a (setNod k i { k.nodes[i] with data:=s }) ms es∧Fr B w (w.setCell ⟨b,i*4+2,none⟩ (.string s)):=
 h.nodeCell ha hi 2 (by omega) (.string s) _ rfl
theorem KS.endCell {p c:Nat} (h:KS B w g a k ms es) (hp:p<k.procs.length) (hp':p<es.length) (he:es[p]= .slice (some ⟨b,0,none⟩) k.procs[p].ends.length c) (hi:i<k.procs[p].ends.length) (j:Nat) (hj:j<3) (u:Value) (y:Opn)
  (hy:[Value.int .i64 y.kind, .int .i64 y.node, .int .i64 y.pos]=[Value.int .i64 k.procs[p].ends[i].kind, .int .i64 k.procs[p].ends[i].node, .int .i64 k.procs[p].ends[i].pos].set j u):
  KS B (w.setCell ⟨b,i*3+j,none⟩ u) g a (setEnd k p i y) ms es∧Fr B w (w.setCell ⟨b,i*3+j,none⟩ u):=by
 have hown:=h.cp.ends.at_ p hp hp';rw[he] at hown;have hbb:B≤b:=(hown.lt b rfl).1;obtain⟨h1,ht⟩:=own_setK hown (i*3+j) u;have hgd:k.procs.getD p default=k.procs[p]:=getD_eq hp;have hc:endCells (k.procs[p].ends.set i y)=(endCells k.procs[p].ends).set (i*3+j) u:=flat_set _ 3 (fun _=>rfl) _ _ hi j hj u y hy;have hse:setEnd k p i y= { k with procs:=k.procs.set p { k.procs[p] with ends:=k.procs[p].ends.set i y } }:=by unfold setEnd;rw[hgd]
 rw[hse];have hl:(k.procs.set p { k.procs[p] with ends:=k.procs[p].ends.set i y }).length=k.procs.length:=List.length_set ..;have hpc:prcCells (k.procs.set p { k.procs[p] with ends:=k.procs[p].ends.set i y }) es=prcCells k.procs es:=by
  have:∀ (l:List Prc) (es:List Value) (p:Nat) (h:p<l.length) (e:List Opn),prcCells (l.set p { l[p] with ends:=e }) es=prcCells l es:=by
   intro l
   induction l with
   | nil=>intro es p h;cases h
   | cons x r ih=>
     intro es p h e;cases es with
     | nil=>cases p<;>rfl
     | cons v s=>
       cases p with
       | zero=>rfl
       | succ p=>
         have:=ih s p (by simpa using h) e;show Value.bool x.live::v::prcCells (r.set p _) s=Value.bool x.live::v::prcCells r s
         congr 2
  exact this k.procs es p hp _
 refine⟨⟨h.lo,?_,?_,?_⟩, .tch (set_below hbb _ _) ht (by decide)⟩
 ·have:=h.blk.tch ht (by decide)
  unfold KA.cells at this ⊢;simp only;rw[hl];exact this
 ·simp only
  rw[hl];refine⟨own_tch h.cp.mods ht (by decide),h.cp.rows.tch ht (by decide) (by decide),own_tch h.cp.mem ht (by decide),own_tch h.cp.nodes ht (by decide),own_tch h.cp.pipes ht (by decide),by simp only;rw[hl,hpc];exact own_tch h.cp.procs ht (by decide),?_,h.cp.apart,h.cp.each⟩;refine PrcRows.of_at (by simp only;rw[hl];exact h.cp.ends.len) fun q hq hq'=>?_
  have hq0:q<k.procs.length:=by simp only at hq;rw[←hl];exact hq
  simp only[List.getElem_set];by_cases hpq:p=q
  ·subst hpq
   rw[if_pos rfl];simp only[List.length_set];rw[hc,he];exact h1
  ·rw[if_neg hpq]
   exact ownsRow_setCell_other (h.cp.ends.at_ q hq0 hq') (a:=⟨b,i*3+j,none⟩) (each_ne h.cp.each hp' hq' hpq (by rw[he];rfl)) u
 ·refine fits_of h.fits rfl (fun x hx=>?_) rfl rfl rfl hl
  obtain⟨q,hq,rfl⟩:=List.mem_iff_getElem.1 hx;have hq0:q<k.procs.length:=by simp only at hq;rw[←hl];exact hq
  simp only[List.getElem_set];by_cases hpq:p=q
  ·subst hpq
   rw[if_pos rfl];simp only[List.length_set];exact h.fits.p _ (List.getElem_mem hp)
  ·rw[if_neg hpq]
   exact h.fits.p _ (List.getElem_mem hq0)
theorem setEnd_eq {k:Krn} {p i:Nat} (hp:p<k.procs.length) {y:Opn}:setEnd k p i y= { k with procs:=k.procs.set p { k.procs[p] with ends:=k.procs[p].ends.set i y } }:=by
 unfold setEnd;rw[getD_eq hp]
theorem setEnd_get {k:Krn} {p i:Nat} (hp:p<k.procs.length) (hi:i<k.procs[p].ends.length) (y:Opn):∃ hp2:p<(setEnd k p i y).procs.length,∃ hi2:i<((setEnd k p i y).procs[p]).ends.length,((setEnd k p i y).procs[p]).ends[i]=y∧((setEnd k p i y).procs[p]).ends.length=k.procs[p].ends.length:=by
 rw[setEnd_eq hp];exact⟨by simpa using hp,by simpa using hi,by simp,by simp⟩
theorem setEnd_set {k:Krn} {p i:Nat} (hp:p<k.procs.length) (y z:Opn):setEnd (setEnd k p i y) p i z=setEnd k p i z:=by
 unfold setEnd;simp[hp]
theorem KS.endAll {p c:Nat} (h:KS B w g a k ms es) (hp:p<k.procs.length) (hp':p<es.length) (he:es[p]= .slice (some ⟨b,0,none⟩) k.procs[p].ends.length c) (hi:i<k.procs[p].ends.length) (y:Opn):
  KS B (((w.setCell ⟨b,i*3,none⟩ (.int .i64 y.kind)).setCell ⟨b,i*3+1,none⟩ (.int .i64 y.node)).setCell ⟨b,i*3+2,none⟩ (.int .i64 y.pos)) g a (setEnd k p i y) ms es∧
  Fr B w (((w.setCell ⟨b,i*3,none⟩ (.int .i64 y.kind)).setCell ⟨b,i*3+1,none⟩ (.int .i64 y.node)).setCell ⟨b,i*3+2,none⟩ (.int .i64 y.pos)):=by
 obtain⟨y0,y1,y2⟩:=y;have s1:=h.endCell hp hp' he hi 0 (by omega) (.int .i64 y0) ⟨y0,k.procs[p].ends[i].node,k.procs[p].ends[i].pos⟩ rfl;obtain⟨hp1,hi1,g1,l1⟩:=setEnd_get hp hi ⟨y0,k.procs[p].ends[i].node,k.procs[p].ends[i].pos⟩;have s2:=s1.1.endCell hp1 hp' (by rw[l1];exact he) hi1 1 (by omega) (.int .i64 y1) ⟨y0,y1,k.procs[p].ends[i].pos⟩ (by rw[g1];rfl);rw[setEnd_set hp] at s2;obtain⟨hp2,hi2,g2,l2⟩:=setEnd_get hp hi ⟨y0,y1,k.procs[p].ends[i].pos⟩;have s3:=s2.1.endCell hp2 hp' (by rw[l2];exact he) hi2 2 (by omega) (.int .i64 y2) ⟨y0,y1,y2⟩ (by rw[g2];rfl);rw[setEnd_set hp] at s3;exact⟨s3.1,(s1.2.trans s2.2).trans s3.2⟩
theorem KS.endPos {p c:Nat} (h:KS B w g a k ms es) (hp:p<k.procs.length) (hp':p<es.length) (he:es[p]= .slice (some ⟨b,0,none⟩) k.procs[p].ends.length c) (hi:i<k.procs[p].ends.length) (n:Int):
  KS B (w.setCell ⟨b,i*3+2,none⟩ (.int .i64 n)) g a (setEnd k p i { k.procs[p].ends[i] with pos:=n }) ms es∧Fr B w (w.setCell ⟨b,i*3+2,none⟩ (.int .i64 n)):=
 h.endCell hp hp' he hi 2 (by omega) (.int .i64 n) _ rfl
end
end Go.Proofs.YtdjamdbamkhblabGreatDoor
namespace Go.Proofs.YtdjamdbamkhblabGreatDoor
open Go.RowKit
set_option linter.unusedVariables false
set_option linter.unusedSimpArgs false
theorem prcCells_set:∀ (l:List Prc) (es:List Value) (p:Nat),es.length=l.length→p<l.length→∀ (x:Prc) (V:Value),prcCells (l.set p x) (es.set p V)=((prcCells l es).set (p*2) (.bool x.live)).set (p*2+1) V
 | [],_,_,_,h,_,_=>by cases h
 | _::_,[],_,h,_,_,_=>by simp at h
 | y::r,v::s,0,_,_,x,V=>rfl
 | y::r,v::s,p+1,hl,hp,x,V=>by
   have:=prcCells_set r s p (by simpa using hl) (by simpa using hp) x V;have e1:(p+1)*2=p*2+2:=by omega
   show Value.bool y.live::v::prcCells (r.set p x) (s.set p V)=_;rw[this,e1];rfl
theorem PrcRows.set_ {w:World} {B:Nat}:∀ {l:List Prc} {es:List Value} {p:Nat} {x:Prc} {V:Value},PrcRows w B l es→w.ownsRow B 68 3 V x.ends.length (endCells x.ends)→PrcRows w B (l.set p x) (es.set p V)
 | [],[],_,_,_,_,_=>by simp[PrcRows]
 | _::_,_::_,0,_,_,h,h1=>⟨h1,h.2⟩
 | _::_,_::_,p+1,_,_,h,h1=>⟨h.1,PrcRows.set_ h.2 h1⟩
 | [],_::_,_,_,_,h,_=>h.elim
 | _::_,[],_,_,_,h,_=>h.elim
theorem each_set {es:List Value} (h:es.Pairwise fun x y=>x.ownBlock=none∨x.ownBlock≠y.ownBlock) {p:Nat} {V:Value} (hV:∀ y∈es,y.ownBlock=none∨y.ownBlock≠V.ownBlock):
  (es.set p V).Pairwise fun x y=>x.ownBlock=none∨x.ownBlock≠y.ownBlock:=by
 rw[List.pairwise_iff_getElem] at h ⊢;intro i j hi hj hij;have hi':i<es.length:=by simpa using hi
 have hj':j<es.length:=by simpa using hj
 simp only[List.getElem_set];by_cases h1:p=i
 ·rw[if_pos h1,if_neg (by omega)]
  rcases hV _ (List.getElem_mem hj') with h2|h2
  ·rw[h2]
   cases V.ownBlock<;>simp
  ·exact .inr fun e=>h2 e.symm
 ·rw[if_neg h1]
  by_cases h2:p=j
  ·rw[if_pos h2]
   exact hV _ (List.getElem_mem hi')
  ·rw[if_neg h2]
   exact h i j hi' hj' hij
section
variable {B:Nat} {w w' w0:World} {g b i p:Nat} {a:KA} {k:Krn} {ms:List (Value × Value)} {es:List Value}
theorem KS.prcAt (h:KS B w g a k ms es) (hp:p<k.procs.length) (hn:0<k.procs[p].ends.length):
  ∃ b4 be c,∃ hp':p<es.length,a.a4=some ⟨b4,0,none⟩∧B≤b4∧b4<w.heap.size∧es[p]= .slice (some ⟨be,0,none⟩) k.procs[p].ends.length c∧B≤be∧be<w.heap.size∧k.procs[p].ends.length≤c∧
   w.cell? ⟨b4,p*2,none⟩=some (.bool k.procs[p].live)∧w.cell? ⟨b4,p*2+1,none⟩=some (.slice (some ⟨be,0,none⟩) k.procs[p].ends.length c):=by
 have hlen:=h.cp.ends.len;have hp':p<es.length:=by omega
 have ho:=h.cp.ends.at_ p hp hp';obtain⟨A,c,he⟩:=own_slice ho;rw[he] at ho;obtain⟨be,rfl,hbe,hlt⟩:=own_addr ho hn;obtain⟨b4,ha4,hb4,hlt4⟩:=own_addr h.cp.procs (by omega);obtain⟨x0,x1⟩:=prcCells_at k.procs es hlen p hp hp';have hr:=Rd.of_own h.cp.procs;rw[ha4] at hr;obtain⟨b,o,hb,_,hc⟩:=hr.2 (by omega);cases hb
 have y0:=hc _ _ x0;have y1:=hc _ _ x1;rw[Nat.zero_add] at y0 y1;rw[he] at y1;exact⟨b4,be,c,hp',ha4,hb4,hlt4,he,hbe,hlt,(own_len ho).2,y0,y1⟩
theorem KS.prc {V:Value} {x:Prc} (h0:KS B w0 g a k ms es) (hb:Below w0.heap.size w0 w) (ha:a.a4=some ⟨b,0,none⟩) (hp:p<k.procs.length)
  (ho:w.ownsRow w0.heap.size 68 3 V x.ends.length (endCells x.ends)) (hf:x.ends.length*24≤140737488351232):
  KS B ((w.setCell ⟨b,p*2,none⟩ (.bool x.live)).setCell ⟨b,p*2+1,none⟩ V) g a { k with procs:=k.procs.set p x } ms (es.set p V)∧
  Fr B w ((w.setCell ⟨b,p*2,none⟩ (.bool x.live)).setCell ⟨b,p*2+1,none⟩ V):=by
 have h:=h0.below hb;have hn:=h.cp.procs;rw[ha] at hn;have hbb:B≤b:=(hn.lt b rfl).1;have hlen:=h.cp.ends.len;obtain⟨h1,t1⟩:=own_setK hn (p*2) (.bool x.live);obtain⟨h2,t2⟩:=own_setK h1 (p*2+1) V;rw[←prcCells_set k.procs es p hlen hp x V, ←ha] at h2;have hl:(k.procs.set p x).length=k.procs.length:=List.length_set ..;have hB0:B≤w0.heap.size:=Nat.le_of_lt h0.lt;refine⟨⟨h.lo,?_,?_,?_⟩,(Fr.tch (set_below hbb _ _) t1 (by decide)).trans (.tch (set_below hbb _ _) t2 (by decide))⟩
 ·have:=(h.blk.tch t1 (by decide)).tch t2 (by decide)
  unfold KA.cells at this ⊢;simp only;rw[hl];exact this
 ·have hc:=h.cp
  simp only;rw[hl];refine⟨own_tch (own_tch hc.mods t1 (by decide)) t2 (by decide),(hc.rows.tch t1 (by decide) (by decide)).tch t2 (by decide) (by decide),own_tch (own_tch hc.mem t1 (by decide)) t2 (by decide),own_tch (own_tch hc.nodes t1 (by decide)) t2 (by decide),
   own_tch (own_tch hc.pipes t1 (by decide)) t2 (by decide),by simp only;rw[hl];exact h2,?_,hc.apart,?_⟩
  ·exact PrcRows.set_ ((hc.ends.tch t1 (by decide)).tch t2 (by decide)) (own_tch (own_tch (own_base ho hB0) t1 (by decide)) t2 (by decide))
  ·refine each_set hc.each fun y hy=>?_
   cases hq:y.ownBlock with
   | none=>exact .inl rfl
   | some q=>
     refine .inr fun e=>?_
     obtain⟨j,hj,rfl⟩:=List.mem_iff_getElem.1 hy;have h3:=((h0.cp.ends.at_ j (by omega) hj).lt q hq).2;have h4:=(ho.lt q e.symm).1;omega
 ·refine fits_of h.fits rfl (fun y hy=>?_) rfl rfl rfl hl
  rcases List.mem_or_eq_of_mem_set hy with hy|rfl
  ·exact h.fits.p _ hy
  ·exact hf
theorem KS.word (h:KS B w g a k ms es) (ha:a.a1=some ⟨b,0,none⟩) (n:Int):
  KS B (w.setCell ⟨b,i,none⟩ (.int .i64 n)) g a { k with mem:=k.mem.set i n } ms es∧Fr B w (w.setCell ⟨b,i,none⟩ (.int .i64 n)):=by
 have hn:=h.cp.mem;rw[ha] at hn;have hbb:B≤b:=(hn.lt b rfl).1;obtain⟨h1,ht⟩:=own_setK hn i (.int .i64 n);have hl:(k.mem.set i n).length=k.mem.length:=List.length_set ..;have hc:intCells (k.mem.set i n)=(intCells k.mem).set i (.int .i64 n):=by unfold intCells;rw[List.map_set]
 rw[←hc, ←ha] at h1;refine⟨⟨h.lo,?_,?_,?_⟩, .tch (set_below hbb _ _) ht (by decide)⟩
 ·have:=h.blk.tch ht (by decide)
  unfold KA.cells at this ⊢;simp only;rw[hl];exact this
 ·simp only
  rw[hl];refine⟨own_tch h.cp.mods ht (by decide),?_,by simp only;rw[hl];exact h1,own_tch h.cp.nodes ht (by decide),own_tch h.cp.pipes ht (by decide),own_tch h.cp.procs ht (by decide),h.cp.ends.tch ht (by decide),h.cp.apart,h.cp.each⟩;have key:∀ {l:List Mod} {xs:List (Value × Value)},ModRows w B l xs→(∀ x∈xs,x.2.ownBlock=none∨x.2.ownBlock≠some b)→ModRows (w.setCell ⟨b,i,none⟩ (.int .i64 n)) B l xs:=by
   intro l
   induction l with
   | nil=>intro xs hh _;cases xs with
     | nil=>trivial
     | cons _ _=>exact hh.elim
   | cons m r ih=>intro xs hh hx;cases xs with
     | nil=>exact hh.elim
     | cons y s=>
       refine⟨⟨own_tch hh.1.1 ht (by decide),?_⟩,ih hh.2 fun z hz=>hx z (List.mem_cons_of_mem _ hz)⟩;refine ownsRow_setCell_other hh.1.2 (a:=⟨b,i,none⟩) ?_ _;rcases hx y (List.mem_cons_self ..) with h2|h2
       ·rw[h2];simp
       ·exact h2
  exact key h.cp.rows fun x hx=>by
   have:=h.cp.apart x hx;rw[ha] at this;exact this
 ·exact fits_of h.fits rfl h.fits.p hl rfl rfl rfl
theorem KS.modApp {V0' vc vd:Value} {m:Mod} {w1:World} (h0:KS B w0 g a k ms es) (hb:Below w0.heap.size w0 w)
  (hc:w.ownsRow w0.heap.size 98 4 vc m.code.length (insCells m.code)) (hd:w.ownsRow w0.heap.size 3 1 vd m.data.length (intCells m.data))
  (h1:w1.ownsRow B 41 3 V0' (k.mods.length+1) (modCells k.mods ms++ [.string m.name,vc,vd])) (hg:w.grownBy w1 (Value.slice a.a0 k.mods.length a.c0).ownBlock)
  (hf:m.name.size≤140737488351232∧m.code.length*32≤140737488351232∧m.data.length*8≤140737488351232) (hl:(k.mods.length+1)*64≤140737488351232):
  ∃ A c,V0'= .slice A (k.mods.length+1) c∧KS B (w1.setCell ⟨g,0,none⟩ V0') g { a with a0:=A,c0:=c } { k with mods:=k.mods++ [m] } (ms++ [(vc,vd)]) es∧Fr B w (w1.setCell ⟨g,0,none⟩ V0'):=by
 obtain⟨A,c,rfl⟩:=own_slice h1;have h:=h0.below hb;have hB0:B≤w0.heap.size:=Nat.le_of_lt h0.lt;have tg:Tch 41 w w1:=Tch.of_grown h.cp.mods hg;have hb1:=h.blk.tch tg (by decide);have ht:=Tch.of_set (p:=⟨g,0,none⟩) hb1 (.slice A (k.mods.length+1) c);have hlen:=h.cp.rows.len;have hle:(k.mods++ [m]).length=k.mods.length+1:=by simp
 have hbelow:Below B w w1:=(Below.refl B w).grown hg (Nat.le_of_lt h.lt) (fun q hq=>(h.cp.mods.lt q hq).1);refine⟨A,c,rfl,⟨h.lo,?_,?_,?_⟩,(Fr.tch hbelow tg (by decide)).trans (.kset h.lo hb1 0 _)⟩
 ·have:=hb1.set_ 0 (.slice A (k.mods.length+1) c)
  unfold KA.cells at this ⊢;simp only;rw[hle];exact this
 ·have hcp:=h.cp
  simp only;rw[hle];refine⟨?_,?_,own_tch (own_tch hcp.mem tg (by decide)) ht (by decide),own_tch (own_tch hcp.nodes tg (by decide)) ht (by decide),own_tch (own_tch hcp.pipes tg (by decide)) ht (by decide),own_tch (own_tch hcp.procs tg (by decide)) ht (by decide),
   (hcp.ends.tch tg (by decide)).tch ht (by decide),fun x hx=>?_,hcp.each⟩
  ·simp only
   rw[hle,modCells_snoc _ _ _ _ hlen];exact own_tch h1 ht (by decide)
  ·exact ModRows.snoc ((hcp.rows.tch tg (by decide) (by decide)).tch ht (by decide) (by decide)) (own_tch (own_tch (own_base hc hB0) tg (by decide)) ht (by decide)) (own_tch (own_tch (own_base hd hB0) tg (by decide)) ht (by decide))
  ·rcases List.mem_append.1 hx with hx|hx
   ·exact hcp.apart x hx
   ·obtain rfl:x=(vc,vd):=by simpa using hx
    cases hq:vd.ownBlock with
    | none=>exact .inl rfl
    | some q=>
      refine .inr fun e=>?_
      have h3:=(hd.lt q hq).1;have h4:=(h0.cp.mem.lt q e.symm).2;omega
 ·exact⟨fun x hx=>by
   rcases List.mem_append.1 hx with hx|hx
   ·exact h.fits.m x hx
   ·obtain rfl:x=m:=by simpa using hx
    exact hf,h.fits.p,by rw[hle];exact hl,h.fits.l1,h.fits.l2,h.fits.l3,h.fits.l4⟩
end
end Go.Proofs.YtdjamdbamkhblabGreatDoor
namespace Go.Proofs.YtdjamdbamkhblabGreatDoor
open Go.RowKit
set_option maxHeartbeats 1000000 in
theorem IndexFunc_opn (F:FuncId) (cp:Array Value) (p:Opn→Bool) (A:Option Addr) (c:Nat) (l:List Opn) (w:World) (hr:RdE w w.heap.size A l) (hl:l.length≤maxLen)
  (eg:∀ args w,(callFunc F args).run Tryz.prog w= .ok (.enter F args) w)
  (hp:∀ x∈l,∀ (w1:World),Below w.heap.size w w1→Calls Tryz.prog F (#[.agg #[.int .i64 x.kind, .int .i64 x.node, .int .i64 x.pos]]++cp) w1 fun e w'=>e= .returned (.bool (p x))∧Below w1.heap.size w1 w'):
  Calls Tryz.prog 74 #[.slice A l.length c, .func (.func F) #[] cp] w fun e w'=>e= .returned (.int .i64 (idxF p l 0))∧Below w.heap.size w w':=by
 unfold maxLen at hl;have HP:=Lib.hid hp;clear hp;go_enter Tryz.func74,Tryz.ntmps74;go_wp2;go_loopw [8] (fun i wr=>Cnt l.length i fun k=>Below w.heap.size w wr∧Hid (idxF p l 0=idxF p (l.drop k) k)) (fun i _=>l.length - (intOf i).toNat)
 case atStart=>exact⟨0,Nat.zero_le _,rfl,Below.refl _ _,rfl⟩
 case round=>
  obtain⟨k,hk,rfl,hb,HV⟩:=hrel;by_cases hlt:k<l.length
  ·obtain⟨b,o,rfl,hbB,hcell⟩:=hr (by omega)
   obtain⟨c0,c1,c2⟩:=hcell k hlt;rw[←hb.cell (p:=⟨b,_,none⟩) hbB] at c0 c1 c2;have HD:=Lib.hid (idxF_drop (p:=p) hlt);have HM:=Lib.hid (List.getElem_mem hlt);clear hr hcell;cases hpk:p l[k] with
   | true=>
     have HK:=Lib.hid hpk;clear hpk;go_wp2_with fail;refine(HP.out _ HM.out _ hb).mono ?_;rw[HK.out];rintro e w1 ⟨rfl,hb1⟩;go_wp2;go_ret;exact⟨ret_int (by rw[HV.out,HD.out,if_pos HK.out]),hb.trans (hb1.mono hb.size)⟩
   | false=>
     have HK:=Lib.hid hpk;clear hpk;go_wp2_with fail;refine(HP.out _ HM.out _ hb).mono ?_;rw[HK.out];rintro e w1 ⟨rfl,hb1⟩;go_wp2;go_roundw
     case rel=>exact⟨k+1,by omega,by go_num,hb.trans (hb1.mono hb.size),by show _=_;rw[HV.out,HD.out,if_neg (by rw[HK.out];decide)]⟩
     case measure=>simp[intOf];omega
  ·go_wp2
   go_ret;exact⟨ret_int (by rw[HV.out,List.drop_of_length_le (by omega)];rfl),hb⟩
set_option maxHeartbeats 400000 in
theorem ContainsFunc_opn (F:FuncId) (cp:Array Value) (p:Opn→Bool) (A:Option Addr) (c:Nat) (l:List Opn) (w:World) (hr:RdE w w.heap.size A l) (hl:l.length≤maxLen)
  (eg:∀ args w,(callFunc F args).run Tryz.prog w= .ok (.enter F args) w)
  (hp:∀ x∈l,∀ (w1:World),Below w.heap.size w w1→Calls Tryz.prog F (#[.agg #[.int .i64 x.kind, .int .i64 x.node, .int .i64 x.pos]]++cp) w1 fun e w'=>e= .returned (.bool (p x))∧Below w1.heap.size w1 w'):
  Calls Tryz.prog 35 #[.slice A l.length c, .func (.func F) #[] cp] w fun e w'=>e= .returned (.bool (l.any p))∧Below w.heap.size w w':=by
 have HP:=Lib.hid hp;have HE:=Lib.hid eg;clear hp eg;go_enter Tryz.func35,Tryz.ntmps35;go_wp2_with fail;refine(IndexFunc_opn F cp p A c l w hr hl HE.out HP.out).mono ?_;rintro e w1 ⟨rfl,hb1⟩;go_wp2
 all_goals go_ret
 all_goals refine⟨ret_bool ?_,hb1⟩
 all_goals rw[←idxF_any p l 0]
end Go.Proofs.YtdjamdbamkhblabGreatDoor
namespace Go.Proofs.YtdjamdbamkhblabGreatDoor
open Go.RowKit
set_option maxHeartbeats 1000000 in
theorem IndexFunc_prc (F:FuncId) (cp:Array Value) (p:Prc→Bool) (A:Option Addr) (c:Nat) (l:List Prc) (w:World) (hr:RdP w w.heap.size A l) (hl:l.length≤maxLen)
  (eg:∀ args w,(callFunc F args).run Tryz.prog w= .ok (.enter F args) w)
  (hp:∀ x∈l,∀ (w1:World) (A1:Option Addr) (c1:Nat),Below w.heap.size w w1→PrcAt w1 w1.heap.size A1 c1 x→Calls Tryz.prog F (#[.agg #[.bool x.live, .slice A1 x.ends.length c1]]++cp) w1 fun e w'=>e= .returned (.bool (p x))∧Below w1.heap.size w1 w'):
  Calls Tryz.prog 49 #[.slice A l.length c, .func (.func F) #[] cp] w fun e w'=>e= .returned (.int .i64 (idxF p l 0))∧Below w.heap.size w w':=by
 unfold maxLen at hl;have HP:=Lib.hid hp;clear hp;go_enter Tryz.func49,Tryz.ntmps49;go_wp2;go_loopw [8] (fun i wr=>Cnt l.length i fun k=>Below w.heap.size w wr∧Hid (idxF p l 0=idxF p (l.drop k) k)) (fun i _=>l.length - (intOf i).toNat)
 case atStart=>exact⟨0,Nat.zero_le _,rfl,Below.refl _ _,rfl⟩
 case round=>
  obtain⟨k,hk,rfl,hb,HV⟩:=hrel;by_cases hlt:k<l.length
  ·obtain⟨b,o,rfl,hbB,hcell⟩:=hr (by omega)
   obtain⟨A1,c1,c0,c1',hz⟩:=hcell k hlt;rw[←hb.cell (p:=⟨b,_,none⟩) hbB] at c0 c1';have HZ:=Lib.hid ((hz.keep (w':=wr) (fun _ hp=>hb.cell hp)).more hb.size);have HD:=Lib.hid (idxF_drop (p:=p) hlt);have HM:=Lib.hid (List.getElem_mem hlt);clear hr hcell hz;cases hpk:p l[k] with
   | true=>
     have HK:=Lib.hid hpk;clear hpk;go_wp2_with fail;refine(HP.out _ HM.out _ _ _ hb HZ.out).mono ?_;rw[HK.out];rintro e w1 ⟨rfl,hb1⟩;go_wp2;go_ret;exact⟨ret_int (by rw[HV.out,HD.out,if_pos HK.out]),hb.trans (hb1.mono hb.size)⟩
   | false=>
     have HK:=Lib.hid hpk;clear hpk;go_wp2_with fail;refine(HP.out _ HM.out _ _ _ hb HZ.out).mono ?_;rw[HK.out];rintro e w1 ⟨rfl,hb1⟩;go_wp2;go_roundw
     case rel=>exact⟨k+1,by omega,by go_num,hb.trans (hb1.mono hb.size),by show _=_;rw[HV.out,HD.out,if_neg (by rw[HK.out];decide)]⟩
     case measure=>simp[intOf];omega
  ·go_wp2
   go_ret;exact⟨ret_int (by rw[HV.out,List.drop_of_length_le (by omega)];rfl),hb⟩
set_option maxHeartbeats 400000 in
theorem ContainsFunc_prc (F:FuncId) (cp:Array Value) (p:Prc→Bool) (A:Option Addr) (c:Nat) (l:List Prc) (w:World) (hr:RdP w w.heap.size A l) (hl:l.length≤maxLen)
  (eg:∀ args w,(callFunc F args).run Tryz.prog w= .ok (.enter F args) w)
  (hp:∀ x∈l,∀ (w1:World) (A1:Option Addr) (c1:Nat),Below w.heap.size w w1→PrcAt w1 w1.heap.size A1 c1 x→Calls Tryz.prog F (#[.agg #[.bool x.live, .slice A1 x.ends.length c1]]++cp) w1 fun e w'=>e= .returned (.bool (p x))∧Below w1.heap.size w1 w'):
  Calls Tryz.prog 71 #[.slice A l.length c, .func (.func F) #[] cp] w fun e w'=>e= .returned (.bool (l.any p))∧Below w.heap.size w w':=by
 have HP:=Lib.hid hp;have HE:=Lib.hid eg;clear hp eg;go_enter Tryz.func71,Tryz.ntmps71;go_wp2_with fail;refine(IndexFunc_prc F cp p A c l w hr hl HE.out HP.out).mono ?_;rintro e w1 ⟨rfl,hb1⟩;go_wp2
 all_goals go_ret
 all_goals refine⟨ret_bool ?_,hb1⟩
 all_goals rw[←idxF_any p l 0]
end Go.Proofs.YtdjamdbamkhblabGreatDoor
