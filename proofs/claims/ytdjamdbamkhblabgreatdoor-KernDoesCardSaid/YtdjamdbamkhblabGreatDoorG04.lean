/- Slices of files, strings and open ends as rows of cells, and back: no condition. Modules as bytes, and back: what decoding an encoding answers, and that a byte that is changed is seen: plain mathematics. The walk of the reference's CodeFault: what it returns, for every code. The walks of safe.Verify and of its reference: what they return, for every code. The walk of safe.Verify: what it returns, for every code. -/
import Derived.Test.YtdjamdbamkhblabGreatDoorG03
import Derived.Test.YtdjamdbamkhblabGreatDoorG02
import Derived.Test.YtdjamdbamkhblabGreatDoorG01
import Derived.Deep.Light
namespace Go.Proofs.YtdjamdbamkhblabGreatDoor
open Go.RowKit
theorem flat_len {α:Type} (f:α→List Value) (s:Nat) (hf:∀ x,(f x).length=s):∀ l:List α,(l.flatMap f).length=l.length*s
 | []=>by simp
 | x::r=>by rw[List.flatMap_cons,List.length_append,flat_len f s hf r,hf,List.length_cons,Nat.add_mul];omega
theorem flat_at {α:Type} (f:α→List Value) (s:Nat) (hf:∀ x,(f x).length=s):∀ (l:List α) (k:Nat) (h:k<l.length) (j:Nat),j<s→(l.flatMap f)[k*s+j]? =(f l[k])[j]?
 | [],k,h,_,_=>by cases h
 | x::r,0,_,j,hj=>by rw[List.flatMap_cons,Nat.zero_mul,Nat.zero_add,List.getElem?_append_left (by rw[hf];exact hj)];rfl
 | x::r,k+1,h,j,hj=>by
   rw[List.flatMap_cons,List.getElem?_append_right (by rw[hf,Nat.add_mul];omega),hf,show (k+1)*s+j - s=k*s+j by rw[Nat.add_mul];omega];exact flat_at f s hf r k (by simpa using h) j hj
theorem strCells_at (l:List ByteArray) (k:Nat) (h:k<l.length):(strCells l)[k]? =some (.string l[k]):=by simp[strCells,h]
theorem RdS.rd {w:World} {B:Nat} {A:Option Addr} {l:List ByteArray} (h:RdS w B A l):Rd w B 1 A l.length (strCells l):=
 ⟨by simp[strCells],fun hn=>by
   obtain⟨b,o,e,hb,hc⟩:=h hn;refine⟨b,o,e,hb,fun j u hu=>?_⟩;have hj:j<l.length:=by simpa [strCells] using(List.getElem?_eq_some_iff.1 hu).1
   rw[strCells_at l j hj] at hu;cases hu;exact hc j hj⟩
theorem RdS.of {w:World} {B:Nat} {A:Option Addr} {l:List ByteArray} (h:Rd w B 1 A l.length (strCells l)):RdS w B A l:=fun hl=>by
 obtain⟨b,o,e,hb,hc⟩:=h.2 hl;exact⟨b,o,e,hb,fun k hk=>hc _ _ (strCells_at l k hk)⟩
theorem str_one (l:List ByteArray):∀ u∈strCells l,u.oneCell'=true:=by
 intro u hu;simp only[strCells,List.mem_map] at hu;obtain⟨i,_,rfl⟩:=hu;rfl
theorem nodCells_len (l:List Nod):(nodCells l).length=l.length*4:=flat_len _ 4 (fun _=>rfl) l
theorem nodCells_at (l:List Nod) (k:Nat) (h:k<l.length):(nodCells l)[k*4]? =some (.string l[k].name)∧(nodCells l)[k*4+1]? =some (.int .i64 l[k].kind)∧(nodCells l)[k*4+2]? =some (.string l[k].data)∧(nodCells l)[k*4+3]? =some (.int .i64 l[k].unit):=
 ⟨flat_at _ 4 (fun _=>rfl) l k h 0 (by omega),flat_at _ 4 (fun _=>rfl) l k h 1 (by omega),flat_at _ 4 (fun _=>rfl) l k h 2 (by omega),flat_at _ 4 (fun _=>rfl) l k h 3 (by omega)⟩
theorem RdD.rd {w:World} {B:Nat} {A:Option Addr} {l:List Nod} (h:RdD w B A l):Rd w B 4 A l.length (nodCells l):=
 ⟨nodCells_len l,fun hn=>by
   obtain⟨b,o,e,hb,hc⟩:=h hn;refine⟨b,o,e,hb,fun j u hu=>?_⟩;have hj:j<l.length*4:=by rw[←nodCells_len];exact(List.getElem?_eq_some_iff.1 hu).1
   have hm:∃ q,q<l.length∧(j=q*4∨j=q*4+1∨j=q*4+2∨j=q*4+3):=⟨j / 4,by omega,by omega⟩;obtain⟨q,hq,hm⟩:=hm;obtain⟨x0,x1,x2,x3⟩:=nodCells_at l q hq;obtain⟨c0,c1,c2,c3⟩:=hc q hq;rcases hm with h|h|h|h<;>subst h
   ·rw[x0] at hu;cases hu;exact c0
   ·rw[x1] at hu;cases hu;exact c1
   ·rw[x2] at hu;cases hu;exact c2
   ·rw[x3] at hu;cases hu;exact c3⟩
theorem RdD.of {w:World} {B:Nat} {A:Option Addr} {l:List Nod} (h:Rd w B 4 A l.length (nodCells l)):RdD w B A l:=fun hl=>by
 obtain⟨b,o,e,hb,hc⟩:=h.2 hl;refine⟨b,o,e,hb,fun k hk=>?_⟩;obtain⟨x0,x1,x2,x3⟩:=nodCells_at l k hk;exact⟨hc _ _ x0,hc _ _ x1,hc _ _ x2,hc _ _ x3⟩
theorem nod_one (l:List Nod):∀ u∈nodCells l,u.oneCell'=true:=by
 intro u hu;simp only[nodCells,List.mem_flatMap] at hu;obtain⟨i,_,hu⟩:=hu;simp at hu;rcases hu with h|h|h|h<;>subst h<;>rfl
theorem endCells_len (l:List Opn):(endCells l).length=l.length*3:=flat_len _ 3 (fun _=>rfl) l
theorem endCells_at (l:List Opn) (k:Nat) (h:k<l.length):(endCells l)[k*3]? =some (.int .i64 l[k].kind)∧(endCells l)[k*3+1]? =some (.int .i64 l[k].node)∧(endCells l)[k*3+2]? =some (.int .i64 l[k].pos):=
 ⟨flat_at _ 3 (fun _=>rfl) l k h 0 (by omega),flat_at _ 3 (fun _=>rfl) l k h 1 (by omega),flat_at _ 3 (fun _=>rfl) l k h 2 (by omega)⟩
theorem RdE.rd {w:World} {B:Nat} {A:Option Addr} {l:List Opn} (h:RdE w B A l):Rd w B 3 A l.length (endCells l):=
 ⟨endCells_len l,fun hn=>by
   obtain⟨b,o,e,hb,hc⟩:=h hn;refine⟨b,o,e,hb,fun j u hu=>?_⟩;have hj:j<l.length*3:=by rw[←endCells_len];exact(List.getElem?_eq_some_iff.1 hu).1
   have hm:∃ q,q<l.length∧(j=q*3∨j=q*3+1∨j=q*3+2):=⟨j / 3,by omega,by omega⟩;obtain⟨q,hq,hm⟩:=hm;obtain⟨x0,x1,x2⟩:=endCells_at l q hq;obtain⟨c0,c1,c2⟩:=hc q hq;rcases hm with h|h|h<;>subst h
   ·rw[x0] at hu;cases hu;exact c0
   ·rw[x1] at hu;cases hu;exact c1
   ·rw[x2] at hu;cases hu;exact c2⟩
theorem RdE.of {w:World} {B:Nat} {A:Option Addr} {l:List Opn} (h:Rd w B 3 A l.length (endCells l)):RdE w B A l:=fun hl=>by
 obtain⟨b,o,e,hb,hc⟩:=h.2 hl;refine⟨b,o,e,hb,fun k hk=>?_⟩;obtain⟨x0,x1,x2⟩:=endCells_at l k hk;exact⟨hc _ _ x0,hc _ _ x1,hc _ _ x2⟩
theorem end_one (l:List Opn):∀ u∈endCells l,u.oneCell'=true:=by
 intro u hu;simp only[endCells,List.mem_flatMap] at hu;obtain⟨i,_,hu⟩:=hu;simp at hu;rcases hu with h|h|h<;>subst h<;>rfl
theorem own_nil {w:World} {base:Nat} {e:TypeId} {size n n' c:Nat} {A:Option Addr} {xs:List Value} (h:w.ownsRow base e size (.slice A n c) n' xs):A=none→n=0∧c=0:=by
 rintro rfl;rcases h.2 with⟨hv,_⟩|⟨g,cap,cur,hv,_⟩
 ·cases hv;exact⟨rfl,rfl⟩
 ·cases hv
theorem modCells_at:∀ (l:List Mod) (ms:List (Value × Value)),ms.length=l.length→∀ (k:Nat) (h:k<l.length) (h':k<ms.length),(modCells l ms)[k*3]? =some (.string l[k].name)∧(modCells l ms)[k*3+1]? =some ms[k].1∧(modCells l ms)[k*3+2]? =some ms[k].2
 | [],_,_,k,h,_=>by cases h
 | _::_,[],hl,_,_,_=>by simp at hl
 | m::r,x::s,hl,0,_,_=>⟨rfl,rfl,rfl⟩
 | m::r,x::s,hl,k+1,h,h'=>by
   have e:∀ j,(modCells (m::r) (x::s))[(k+1)*3+j]? =(modCells r s)[k*3+j]? :=fun j=>by
    rw[show (k+1)*3+j=(k*3+j)+1+1+1 by omega];rfl
   have:=modCells_at r s (by simpa using hl) k (by simpa using h) (by simpa using h');exact⟨(e 0).trans this.1,(e 1).trans this.2.1,(e 2).trans this.2.2⟩
theorem prcCells_at:∀ (l:List Prc) (es:List Value),es.length=l.length→∀ (k:Nat) (h:k<l.length) (h':k<es.length),(prcCells l es)[k*2]? =some (.bool l[k].live)∧(prcCells l es)[k*2+1]? =some es[k]
 | [],_,_,k,h,_=>by cases h
 | _::_,[],hl,_,_,_=>by simp at hl
 | m::r,x::s,hl,0,_,_=>⟨rfl,rfl⟩
 | m::r,x::s,hl,k+1,h,h'=>by
   have e:∀ j,(prcCells (m::r) (x::s))[(k+1)*2+j]? =(prcCells r s)[k*2+j]? :=fun j=>by
    rw[show (k+1)*2+j=(k*2+j)+1+1 by omega];rfl
   have:=prcCells_at r s (by simpa using hl) k (by simpa using h) (by simpa using h');exact⟨(e 0).trans this.1,(e 1).trans this.2⟩
theorem ModRows.at_ {w:World} {B:Nat}:∀ {l:List Mod} {ms:List (Value × Value)},ModRows w B l ms→∀ (k:Nat) (h:k<l.length) (h':k<ms.length),w.ownsRow B 98 4 ms[k].1 l[k].code.length (insCells l[k].code)∧w.ownsRow B 3 1 ms[k].2 l[k].data.length (intCells l[k].data)
 | [],[],_,k,h,_=>by cases h
 | _::_,_::_,h,0,_,_=>h.1
 | _::_,_::_,h,k+1,hk,hk'=>ModRows.at_ h.2 k (by simpa using hk) (by simpa using hk')
 | [],_::_,h,_,_,_=>h.elim
 | _::_,[],h,_,_,_=>h.elim
theorem PrcRows.at_ {w:World} {B:Nat}:∀ {l:List Prc} {es:List Value},PrcRows w B l es→∀ (k:Nat) (h:k<l.length) (h':k<es.length),w.ownsRow B 68 3 es[k] l[k].ends.length (endCells l[k].ends)
 | [],[],_,k,h,_=>by cases h
 | _::_,_::_,h,0,_,_=>h.1
 | _::_,_::_,h,k+1,hk,hk'=>PrcRows.at_ h.2 k (by simpa using hk) (by simpa using hk')
 | [],_::_,h,_,_,_=>h.elim
 | _::_,[],h,_,_,_=>h.elim
structure Krn.fits (k:Krn):Prop where
 m:∀ m∈k.mods,m.name.size≤140737488351232∧m.code.length*32≤140737488351232∧m.data.length*8≤140737488351232
 p:∀ p∈k.procs,p.ends.length*24≤140737488351232
 l0:k.mods.length*64≤140737488351232
 l1:k.mem.length*8≤140737488351232
 l2:k.nodes.length*48≤140737488351232
 l3:k.pipes.length*16≤140737488351232
 l4:k.procs.length*32≤140737488351232
theorem KrnAt.fits {w:World} {B:Nat} {a:KA} {k:Krn} (h:KrnAt w B a k):k.fits:=
 ⟨fun m hm=>by
   obtain⟨i,hi,rfl⟩:=List.mem_iff_getElem.1 hm;obtain⟨_,_,_,_,hc⟩:=h.mods (by omega);obtain⟨_,_,_,_,_,_,_,z⟩:=hc i hi;exact⟨z.nm,z.cl,z.dl⟩,fun p hp=>by
   obtain⟨i,hi,rfl⟩:=List.mem_iff_getElem.1 hp;obtain⟨_,_,_,_,hc⟩:=h.procs (by omega);obtain⟨_,_,_,_,z⟩:=hc i hi;exact z.el,h.l0,h.l1,h.l2,h.l3,h.l4⟩
theorem Copied.krn {w:World} {base:Nat} {V0 V1 V2 V3 V4:Value} {k:Krn} {ms:List (Value × Value)} {es:List Value} (h:Copied w base V0 V1 V2 V3 V4 k ms es) (hf:k.fits):
  ∃ a:KA, #[V0,V1,V2,V3,V4]=a.cells k∧KrnAt w w.heap.size a k:=by
 have H0:=h.mods;have H1:=h.mem;have H2:=h.nodes;have H3:=h.pipes;have H4:=h.procs;obtain⟨A0,c0,rfl⟩:=own_slice H0;obtain⟨A1,c1,rfl⟩:=own_slice H1;obtain⟨A2,c2,rfl⟩:=own_slice H2;obtain⟨A3,c3,rfl⟩:=own_slice H3;obtain⟨A4,c4,rfl⟩:=own_slice H4;refine⟨⟨A0,c0,A1,c1,A2,c2,A3,c3,A4,c4⟩,rfl,⟨fun hl=>?_,RdN.of (Rd.of_own H1),RdD.of (Rd.of_own H2),RdS.of (Rd.of_own H3),fun hl=>?_,hf.l0,hf.l1,hf.l2,hf.l3,hf.l4,own_nil H0,own_nil H1,own_nil H2,own_nil H3,own_nil H4⟩⟩
 ·obtain⟨b,o,e,hb,hc⟩:=(Rd.of_own H0).2 hl
  have hlen:=h.rows.len;refine⟨b,o,e,hb,fun i hi=>?_⟩;obtain⟨x0,x1,x2⟩:=modCells_at k.mods ms hlen i hi (by omega);obtain⟨o1,o2⟩:=h.rows.at_ i hi (by omega);obtain⟨A1,c1,e1⟩:=own_slice o1;obtain⟨A2,c2,e2⟩:=own_slice o2;rw[e1] at o1 x1;rw[e2] at o2 x2;obtain⟨f1,f2,f3⟩:=hf.m _ (List.getElem_mem hi);exact⟨A1,c1,A2,c2,hc _ _ x0,hc _ _ x1,hc _ _ x2,RdI.of (Rd.of_own o1),RdN.of (Rd.of_own o2),f1,f2,f3,own_nil o1,own_nil o2⟩
 ·obtain⟨b,o,e,hb,hc⟩:=(Rd.of_own H4).2 hl
  have hlen:=h.ends.len;refine⟨b,o,e,hb,fun i hi=>?_⟩;obtain⟨x0,x1⟩:=prcCells_at k.procs es hlen i hi (by omega);have o1:=h.ends.at_ i hi (by omega);obtain⟨A1,c1,e1⟩:=own_slice o1;rw[e1] at o1 x1;exact⟨A1,c1,hc _ _ x0,hc _ _ x1,RdE.of (Rd.of_own o1),hf.p _ (List.getElem_mem hi),own_nil o1⟩
end Go.Proofs.YtdjamdbamkhblabGreatDoor
namespace Go.Proofs.YtdjamdbamkhblabGreatDoor
def u8 (n:Nat):UInt8:=UInt8.ofNat n
theorem u8_toNat (n:Nat):(u8 n).toNat=n % 256:=by simp[u8]
theorem u8_lt (c:UInt8):c.toNat<256:=UInt8.toNat_lt c
def two (n:Nat):List UInt8:=[u8 (n / 256),u8 n]
def adl:List UInt8→Nat→Nat→Nat × Nat
 | [],x,y=>(x,y)
 | c::r,x,y=>adl r ((x+c.toNat) % 65521) ((y+(x+c.toNat) % 65521) % 65521)
def sealL (l:List UInt8):List UInt8:=two (adl l 1 0).2++two (adl l 1 0).1
def getI:Nat→List UInt8→Option (List Ins × List UInt8)
 | 0,r=>some ([],r)
 | k+1,o::ab::c::d::r=>(getI k r).map fun x=>(⟨(o.toNat:Int),(ab.toNat / 16:Nat),(ab.toNat % 16:Nat),(256*c.toNat+d.toNat:Nat)⟩::x.1,x.2)
 | _+1,_=>none
def getW:Nat→List UInt8→Option (List Int × List UInt8)
 | 0,r=>some ([],r)
 | k+1,c::d::r=>(getW k r).map fun x=>(((256*c.toNat+d.toNat:Nat):Int)::x.1,x.2)
 | _+1,_=>none
def getM:List UInt8→Option (Mod × List UInt8)
 | []=>none
 | n::r=>if r.length<n.toNat then none else
   match r.drop n.toNat with
   | []=>none
   | k::r1=>(getI k.toNat r1).bind fun x=>
     match x.2 with
     | []=>none
     | j::r2=>(getW j.toNat r2).map fun y=>(⟨⟨(r.take n.toNat).toArray⟩,x.1,y.1⟩,y.2)
def decE (s:List UInt8) (ck:Mod→Int):Option Mod × Int:=
 if 4000<s.length then (none,1) else if s.length<4 then (none,5) else if sealL (s.drop 4)≠s.take 4 then (none,11) else
 match getM (s.drop 4) with
 | none=>(none,5)
 | some (m,r)=>if r≠ [] then (none,4) else if ck m=0 then (some m,0) else (none,ck m)
theorem decE_some {s:List UInt8} {ck:Mod→Int} {m:Mod} {e:Int} (h:decE s ck=(some m,e)):ck m=0∧e=0:=by
 unfold decE at h;split at h
 ·cases h
 split at h
 ·cases h
 split at h
 ·cases h
 split at h
 ·cases h
 split at h
 ·cases h
 split at h
 ·cases h
  exact⟨by assumption,rfl⟩
 ·cases h
theorem decE_none {s:List UInt8} {ck:Mod→Int} {e:Int} (h:decE s ck=(none,e)):e≠0:=by
 unfold decE at h;split at h
 ·cases h;decide
 split at h
 ·cases h;decide
 split at h
 ·cases h;decide
 split at h
 ·cases h;decide
 split at h
 ·cases h;decide
 split at h
 ·cases h
 ·cases h;assumption
end Go.Proofs.YtdjamdbamkhblabGreatDoor
namespace Go.Proofs.YtdjamdbamkhblabGreatDoor
open Go.RowKit
set_option maxHeartbeats 1000000 in
theorem CodeFault_any (A:Option Addr) (c:Nat) (l:List Ins) (w:World) (hr:RdI w w.heap.size A l) (hl:l.length≤maxLen):
  Calls Tryz.prog 93 #[.slice A l.length c] w fun e w'=>e= .returned (.int .i64 (check l))∧Below w.heap.size w w':=by
 unfold maxLen at hl;by_cases h200:200<l.length
 ·go_enter Tryz.func93,Tryz.ntmps93
  go_wp2;go_ret;exact⟨ret_int (by rw[check,if_pos h200]),Below.refl _ _⟩
 ·have hck:check l=chk (l.drop 0):=by rw[check,if_neg h200];rfl
  have HC:=Lib.hid hck;clear hck;go_enter Tryz.func93,Tryz.ntmps93;go_wp2;go_loopw [3] (fun i wr=>∃ k:Nat,k≤l.length∧i= .int .i64 k∧Below w.heap.size w wr∧Hid (check l=chk (l.drop k))) (fun i _=>l.length - (intOf i).toNat)
  case atStart=>exact⟨0,Nat.zero_le _,rfl,Below.refl _ _,HC⟩
  case round=>
   clear HC;obtain⟨k,hk,rfl,hb,HC⟩:=hrel;by_cases hlt:k<l.length
   ·obtain⟨b,o,rfl,hbB,hcell⟩:=hr (by omega)
    obtain⟨c0,c1,c2,c3⟩:=hcell k hlt;rw[←hb.cell (p:=⟨b,_,none⟩) hbB] at c0 c1 c2 c3;have HD:=Lib.hid (chk_drop hlt);have hbz:=hb.size;clear hr hcell;by_cases hop:1≤l[k].op∧l[k].op≤15
    ·obtain⟨hop1,hop2⟩:=hop
     obtain⟨q,hq⟩:∃ q:Nat,l[k].op=q:=⟨l[k].op.toNat,by omega⟩;rw[hq] at c0 hop1 hop2;have hs:(shp q).size=3:=shp_size (by omega) (by omega);obtain⟨hpa,hpb,hpc⟩:=shp_parts (q:=q) (by omega) (by omega) hs;have HE:Hid (okI l[k]=(decide (0≤l[k].a∧l[k].a≤grt ((shp q)[0]'(by omega)).toNat) && decide (0≤l[k].b∧l[k].b≤grt ((shp q)[1]'(by omega)).toNat) && decide (0≤l[k].c∧l[k].c≤grt ((shp q)[2]'(by omega)).toNat))):=by
      rw[hpa,hpb,hpc];unfold okI;rw[hq];exact rfl
     have HF:Hid (¬ (l[k].op<1∨15<l[k].op)):=by show ¬ _;omega
     clear hq hpa hpb hpc;generalize hx:l[k].a=x at*;generalize hy:l[k].b=y at*;generalize hz:l[k].c=z at*;clear hx hy hz;have hin:inB (q:Int) 1 15=true:=inB_true hop1 hop2;by_cases hxx:0≤x∧x≤grt ((shp q)[0]'(by omega)).toNat
     ·have ha:inB x 0 (grt ((shp q)[0]'(by omega)).toNat)=true:=inB_true hxx.1 hxx.2
      by_cases hyy:0≤y∧y≤grt ((shp q)[1]'(by omega)).toNat
      ·have hb':inB y 0 (grt ((shp q)[1]'(by omega)).toNat)=true:=inB_true hyy.1 hyy.2
       by_cases hzz:0≤z∧z≤grt ((shp q)[2]'(by omega)).toNat
       ·have hc':inB z 0 (grt ((shp q)[2]'(by omega)).toNat)=true:=inB_true hzz.1 hzz.2
        go_wp2_with (first|(go_at_call 17;refine(In_any _ _ _ _).mono ?_;rintro e w' ⟨rfl,rfl⟩)|(go_at_call 103;refine(shapeOf_any q (by omega) (by omega) _).mono ?_;rintro e w' ⟨rfl,rfl⟩));go_quiet ((first|(go_at_call 17;exact quiet_left (In_any _ _ _ _))|(go_at_call 104;exact quiet_left (mostOf_any _ _))));go_wp2;go_roundw
        case rel=>
         refine⟨k+1,by omega,by go_num,Below.drewN' (hb.alloc hbz _) _,?_⟩;show _=_;rw[HC.out,HD.out,if_neg HF.out,HE.out];simp[hxx,hyy,hzz]
        case measure=>simp[intOf];omega
       ·have hn:inB z 0 (grt ((shp q)[2]'(by omega)).toNat)=false:=inB_false (by omega)
        have HG:Hid (check l=2):=by
         show _=_;rw[HC.out,HD.out,if_neg HF.out,HE.out];simp[hzz]
        go_wp2_with (first|(go_at_call 17;refine(In_any _ _ _ _).mono ?_;rintro e w' ⟨rfl,rfl⟩)|(go_at_call 103;refine(shapeOf_any q (by omega) (by omega) _).mono ?_;rintro e w' ⟨rfl,rfl⟩));go_quiet ((first|(go_at_call 17;exact quiet_left (In_any _ _ _ _))|(go_at_call 104;exact quiet_left (mostOf_any _ _))));go_wp2;go_ret;exact⟨ret_int HG.out.symm,Below.drewN' (hb.alloc hbz _) _⟩
      ·have hn:inB y 0 (grt ((shp q)[1]'(by omega)).toNat)=false:=inB_false (by omega)
       have HG:Hid (check l=2):=by
        show _=_;rw[HC.out,HD.out,if_neg HF.out,HE.out];simp[hyy]
       go_wp2_with (first|(go_at_call 17;refine(In_any _ _ _ _).mono ?_;rintro e w' ⟨rfl,rfl⟩)|(go_at_call 103;refine(shapeOf_any q (by omega) (by omega) _).mono ?_;rintro e w' ⟨rfl,rfl⟩));go_quiet ((first|(go_at_call 17;exact quiet_left (In_any _ _ _ _))|(go_at_call 104;exact quiet_left (mostOf_any _ _))));go_wp2;go_ret;exact⟨ret_int HG.out.symm,Below.drewN' (hb.alloc hbz _) _⟩
     ·have hn:inB x 0 (grt ((shp q)[0]'(by omega)).toNat)=false:=inB_false (by omega)
      have HG:Hid (check l=2):=by
       show _=_;rw[HC.out,HD.out,if_neg HF.out,HE.out];simp[hxx]
      go_wp2_with (first|(go_at_call 17;refine(In_any _ _ _ _).mono ?_;rintro e w' ⟨rfl,rfl⟩)|(go_at_call 103;refine(shapeOf_any q (by omega) (by omega) _).mono ?_;rintro e w' ⟨rfl,rfl⟩));go_quiet ((first|(go_at_call 17;exact quiet_left (In_any _ _ _ _))|(go_at_call 104;exact quiet_left (mostOf_any _ _))));go_wp2;go_ret;exact⟨ret_int HG.out.symm,Below.drewN' (hb.alloc hbz _) _⟩
    ·have HG:Hid (check l=3):=by
      show _=_;rw[HC.out,HD.out,if_pos (by omega)]
     have hin:inB l[k].op 1 15=false:=inB_false (by omega);generalize l[k].op=q at*;go_wp2_with (go_at_call 17;refine(In_any _ _ _ _).mono ?_;rintro e w' ⟨rfl,rfl⟩);go_ret;exact⟨ret_int HG.out.symm,hb.alloc hbz _⟩
   ·go_wp2
    go_ret;exact⟨ret_int (by rw[HC.out,List.drop_of_length_le (by omega)];rfl),hb⟩
end Go.Proofs.YtdjamdbamkhblabGreatDoor
namespace Go.Proofs.YtdjamdbamkhblabGreatDoor
open Go.RowKit
set_option maxRecDepth 100000
def wrB (i:Ins):Bool:=decide (1≤i.op∧i.op≤8)
def fstB (i:Ins):Bool:=decide (i.op=4∧i.a=4∧i.c=6)
def sndB (i:Ins):Bool:=decide (i.op=5∧i.a=4∧i.b=4∧i.c=5)
def endB (i:Ins):Bool:=decide (i.op=10∨i.op=13∨i.op=15)
def jmpB (i:Ins):Bool:=decide (i.op=10∨i.op=11∨i.op=12)
set_option maxHeartbeats 400000 in
theorem writes_any (x y z u:Int) (w:World):
  Calls Tryz.prog 86 #[.agg #[.int .i64 x, .int .i64 y, .int .i64 z, .int .i64 u]] w fun e w'=>e= .returned (.bool (wrB ⟨x,y,z,u⟩))∧w.alloc (.cells #[.int .i64 x, .int .i64 y, .int .i64 z, .int .i64 u] 98)=w':=by
 go_enter Tryz.func86,Tryz.ntmps86;go_wp2
 all_goals go_ret
 all_goals refine⟨ret_bool ?_,by simp[*]⟩
 all_goals (simp[wrB];omega)
set_option maxHeartbeats 400000 in
theorem second_any (x y z u:Int) (w:World):
  Calls Tryz.prog 87 #[.agg #[.int .i64 x, .int .i64 y, .int .i64 z, .int .i64 u]] w fun e w'=>e= .returned (.bool (sndB ⟨x,y,z,u⟩))∧w.alloc (.cells #[.int .i64 x, .int .i64 y, .int .i64 z, .int .i64 u] 98)=w':=by
 have k1:Tryz.prog.stoodInHeld 98=false:=by kernel_rfl
 have k2:Tryz.prog.eqGuardType Tryz.prog.depth 98=false:=by kernel_rfl
 go_enter Tryz.func87,Tryz.ntmps87;go_wp2
 all_goals go_ret
 all_goals refine⟨ret_bool ?_,by simp[*]⟩
 all_goals (rw[Bool.eq_iff_iff];simp[sndB];omega)
set_option maxHeartbeats 400000 in
theorem first_any (x y z u:Int) (w:World):
  Calls Tryz.prog 88 #[.agg #[.int .i64 x, .int .i64 y, .int .i64 z, .int .i64 u]] w fun e w'=>e= .returned (.bool (fstB ⟨x,y,z,u⟩))∧w.alloc (.cells #[.int .i64 x, .int .i64 y, .int .i64 z, .int .i64 u] 98)=w':=by
 go_enter Tryz.func88,Tryz.ntmps88;go_wp2
 all_goals go_ret
 all_goals refine⟨ret_bool ?_,by simp[*]⟩
 all_goals (rw[Bool.eq_iff_iff];simp[fstB];omega)
set_option maxHeartbeats 400000 in
theorem ends_any (x y z u:Int) (w:World):
  Calls Tryz.prog 85 #[.agg #[.int .i64 x, .int .i64 y, .int .i64 z, .int .i64 u]] w fun e w'=>e= .returned (.bool (endB ⟨x,y,z,u⟩))∧w.alloc (.cells #[.int .i64 x, .int .i64 y, .int .i64 z, .int .i64 u] 98)=w':=by
 go_enter Tryz.func85,Tryz.ntmps85;go_wp2
 all_goals go_ret
 all_goals refine⟨ret_bool ?_,by simp[*]⟩
 all_goals (rw[Bool.eq_iff_iff];simp[endB];omega)
set_option maxHeartbeats 400000 in
theorem stops_any (x y z u:Int) (w:World):
  Calls Tryz.prog 94 #[.agg #[.int .i64 x, .int .i64 y, .int .i64 z, .int .i64 u]] w fun e w'=>e= .returned (.bool (endB ⟨x,y,z,u⟩))∧w.alloc (.cells #[.int .i64 x, .int .i64 y, .int .i64 z, .int .i64 u] 98)=w':=by
 go_enter Tryz.func94,Tryz.ntmps94;go_wp2
 all_goals go_ret
 all_goals refine⟨ret_bool ?_,by simp[*]⟩
 all_goals (rw[Bool.eq_iff_iff];simp[endB];omega)
set_option maxHeartbeats 400000 in
theorem jumps_any (x y z u:Int) (w:World):
  Calls Tryz.prog 96 #[.agg #[.int .i64 x, .int .i64 y, .int .i64 z, .int .i64 u]] w fun e w'=>e= .returned (.bool (jmpB ⟨x,y,z,u⟩))∧w.alloc (.cells #[.int .i64 x, .int .i64 y, .int .i64 z, .int .i64 u] 98)=w':=by
 go_enter Tryz.func96,Tryz.ntmps96;go_wp2
 all_goals go_ret
 all_goals refine⟨ret_bool ?_,by simp[*]⟩
 all_goals (rw[Bool.eq_iff_iff];simp[jmpB];omega)
set_option maxHeartbeats 400000 in
theorem orBase_any (x y z u:Int) (w:World):
  Calls Tryz.prog 95 #[.agg #[.int .i64 x, .int .i64 y, .int .i64 z, .int .i64 u]] w fun e w'=>e= .returned (.bool (sndB ⟨x,y,z,u⟩))∧w.alloc (.cells #[.int .i64 x, .int .i64 y, .int .i64 z, .int .i64 u] 98)=w':=by
 go_enter Tryz.func95,Tryz.ntmps95;go_wp2
 all_goals go_ret
 all_goals refine⟨ret_bool ?_,by simp[*]⟩
 all_goals (rw[Bool.eq_iff_iff];simp[sndB];omega)
def badB (n:Nat) (i j:Ins):Bool:=
 (wrB i && (i.a == 5 || i.a == 6)) || (wrB i && i.a == 4 && !sndB i && !(fstB i && sndB j)) || ((i.op == 8 || i.op == 9) && i.b != 4) || (jmpB i && decide (n≤i.c))
def vrf (n:Nat):List Ins→Int
 | []=>0
 | i::r=>if badB n i (r.headD default) then 10 else vrf n r
def lastOk (l:List Ins):Bool:=match l.getLast? with|none=>false|some i=>endB i
def verify (l:List Ins):Int:=if check l=0 then (if lastOk l then vrf l.length l else 10) else check l
theorem vrf_drop {n:Nat} {l:List Ins} {k:Nat} (h:k<l.length):vrf n (l.drop k)=if badB n l[k] (l.getD (k+1) default) then 10 else vrf n (l.drop (k+1)):=by
 rw[List.drop_eq_getElem_cons h];show (if badB n l[k] ((l.drop (k+1)).headD default) then 10 else _)=_;rw[List.headD_eq_head?_getD,List.head?_drop,List.getD_eq_getElem?_getD]
theorem chk_op {l:List Ins} (h:chk l=0):∀ k (hk:k<l.length),1≤l[k].op∧l[k].op≤15:=by
 induction l with
 | nil=>intro k hk;cases hk
 | cons i r ih=>
   rw[chk] at h;by_cases h1:i.op<1∨15<i.op
   ·rw[if_pos h1] at h;cases h
   ·rw[if_neg h1] at h
    by_cases h2:okI i=true
    ·rw[if_pos h2] at h
     intro k hk;cases k with
     | zero=>simp;omega
     | succ k=>exact ih h k (by simpa using hk)
    ·rw[if_neg h2] at h;cases h
end Go.Proofs.YtdjamdbamkhblabGreatDoor
namespace Go.Proofs.YtdjamdbamkhblabGreatDoor
open Go.RowKit
set_option maxHeartbeats 4000000 in
set_option maxRecDepth 100000 in
theorem Verify_any (A:Option Addr) (c:Nat) (l:List Ins) (w:World) (hr:RdI w w.heap.size A l) (ht:Tab w) (hl:l.length≤maxLen):
  Calls Tryz.prog 66 #[.slice A l.length c] w fun e w'=>e= .returned (.int .i64 (verify l))∧Below w.heap.size w w':=by
 have HL:=Lib.hid hl;unfold maxLen at hl;by_cases hc0:check l=0
 ·have HC:=Lib.hid hc0
  clear hc0;by_cases hn0:l.length=0
  ·have hn1:((l.length:Int) == 0)=true:=by simp[hn0]
   have HN:=Lib.hid hn0;clear hn0;go_enter Tryz.func66,Tryz.ntmps66;go_wp2_with fail;refine(Check_any A c l w hr ht HL.out).mono ?_;rw[HC.out];rintro e w1 ⟨rfl,hb1⟩;go_wp2;go_ret;exact⟨ret_int (by rw[verify,if_pos HC.out,List.eq_nil_of_length_eq_zero HN.out];rfl),hb1⟩
  ·have hn1:((l.length:Int) == 0)=false:=by rw[beq_eq_false_iff_ne];omega
   have hr0:=hr;obtain⟨b,o,rfl,hbB,hcell⟩:=hr (by omega);obtain⟨c0,c1,c2,c3⟩:=hcell (l.length - 1) (by omega);have hbs:b<w.heap.size:=hbB;go_enter Tryz.func66,Tryz.ntmps66;go_wp2_with fail;refine(Check_any (some ⟨b,o,none⟩) c l w hr0 ht HL.out).mono ?_;rw[HC.out];rintro e w1 ⟨rfl,hb1⟩;rw[←hb1.cell (p:=⟨b,_,none⟩) hbB] at c0 c1 c2 c3;have hz1:b<w1.heap.size:=Nat.lt_of_lt_of_le hbB hb1.size;have HE:Hid (lastOk l=endB l[l.length - 1]):=by
    show lastOk l=_;unfold lastOk;rw[List.getLast?_eq_getElem?,List.getElem?_eq_getElem (by omega)]
   have HF:Hid (verify l=if endB l[l.length - 1] then vrf l.length (l.drop 0) else 10):=by
    show verify l=_;rw[verify,if_pos HC.out,HE.out,List.drop_zero]
   clear HE;by_cases hlast:endB l[l.length - 1]=true
   ·have hend:endB ⟨l[l.length - 1].op,l[l.length - 1].a,l[l.length - 1].b,l[l.length - 1].c⟩=true:=hlast
    have HV:Hid (verify l=vrf l.length (l.drop 0)):=by show _=_;rw[HF.out,if_pos hlast]
    have HL2:=Lib.hid hlast;have HK:Hid (chk l=0):=by show _=_;have:=HC.out;unfold check at this;split at this<;>simp_all
    clear hlast HF;go_wp2_with (go_at_call 85;refine(ends_any _ _ _ _ _).mono ?_;rintro e w2 ⟨rfl,rfl⟩);clear c0 c1 c2 c3 hend;go_loopw [26] (fun i wr=>Cnt l.length i fun k=>Below w.heap.size w wr∧Hid (verify l=vrf l.length (l.drop k))) (fun i _=>l.length - (intOf i).toNat)
    case atStart=>exact⟨0,Nat.zero_le _,rfl,hb1.alloc hb1.size _,HV⟩
    case round=>
     clear HV;obtain⟨k,hk,rfl,hb,HV⟩:=hrel;by_cases hlt:k<l.length
     ·obtain⟨c0,c1,c2,c3⟩:=hcell k hlt
      rw[←hb.cell (p:=⟨b,_,none⟩) hbB] at c0 c1 c2 c3;have HD:Hid (vrf l.length (l.drop k)=if badB l.length l[k] (l.getD (k+1) default) then 10 else vrf l.length (l.drop (k+1))):=vrf_drop hlt;have hbz:=hb.size;have hzr:b<wr.heap.size:=Nat.lt_of_lt_of_le hbB hbz;have hz1:b<wr.heap.size+1:=by omega
      have hz2:b<wr.heap.size+1+1:=by omega
      have hz3:b<wr.heap.size+1+1+1:=by omega
      have hz4:b<wr.heap.size+1+1+1+1:=by omega
      have hz5:b<wr.heap.size+1+1+1+1+1:=by omega
      obtain⟨o1,o2⟩:=chk_op HK.out k hlt;by_cases hk1:k+1<l.length
      ·obtain⟨d0,d1,d2,d3⟩:=hcell (k+1) hk1
       rw[←hb.cell (p:=⟨b,_,none⟩) hbB] at d0 d1 d2 d3;have HJ:Hid (l.getD (k+1) default=l[k+1]):=by show _=_;simp[List.getD,hk1]
       rw[HJ.out] at HD;clear hr hr0 hcell;generalize l[k]=i0 at*;generalize l[k+1]=j0 at*;obtain⟨io,ia,ib,ic⟩:=i0;obtain⟨jo,ja,jb,jc⟩:=j0
       dsimp only at c0 c1 c2 c3 d0 d1 d2 d3 o1 o2
       by_cases hW:io≤8
       ·have hW1:wrB ⟨io,ia,ib,ic⟩=true:=by simp[wrB];omega
        go_wp2_with (first|(go_at_call 86;refine(writes_any _ _ _ _ _).mono ?_;rintro e w2 ⟨rfl,rfl⟩)|(go_at_call 87;refine(second_any _ _ _ _ _).mono ?_;rintro e w2 ⟨rfl,rfl⟩)|(go_at_call 88;refine(first_any _ _ _ _ _).mono ?_;rintro e w2 ⟨rfl,rfl⟩))
        all_goals first
         | (go_ret
            refine⟨ret_int ?_,?_⟩
            ·rw[HV.out,HD.out,if_pos]
             go_light
             simp_all [badB,jmpB]
            ·go_light
             repeat (first|exact hb|refine Below.alloc ?_ (by first|omega|(simp;omega)) _))
         | (refine⟨?_,?_⟩
            ·refine⟨k+1,by omega,by go_num,?_,?_⟩
             ·go_light
              repeat (first|exact hb|refine Below.alloc ?_ (by first|omega|(simp;omega)) _)
             ·show _=_
              rw[HV.out,HD.out,if_neg];go_light
              simp_all [badB,jmpB]
            ·simp[intOf];omega)
         | (exfalso;go_light;simp_all;done)
       ·have hW1:wrB ⟨io,ia,ib,ic⟩=false:=by simp[wrB];omega
        go_wp2_with (first|(go_at_call 86;refine(writes_any _ _ _ _ _).mono ?_;rintro e w2 ⟨rfl,rfl⟩)|(go_at_call 87;refine(second_any _ _ _ _ _).mono ?_;rintro e w2 ⟨rfl,rfl⟩)|(go_at_call 88;refine(first_any _ _ _ _ _).mono ?_;rintro e w2 ⟨rfl,rfl⟩))
        all_goals first
         | (go_ret
            refine⟨ret_int ?_,?_⟩
            ·rw[HV.out,HD.out,if_pos]
             go_light
             simp_all [badB,jmpB]
            ·go_light
             repeat (first|exact hb|refine Below.alloc ?_ (by first|omega|(simp;omega)) _))
         | (refine⟨?_,?_⟩
            ·refine⟨k+1,by omega,by go_num,?_,?_⟩
             ·go_light
              repeat (first|exact hb|refine Below.alloc ?_ (by first|omega|(simp;omega)) _)
             ·show _=_
              rw[HV.out,HD.out,if_neg];go_light
              simp_all [badB,jmpB]
            ·simp[intOf];omega)
         | (exfalso;go_light;simp_all;done)
      ·have hO:l[k].op=10∨l[k].op=13∨l[k].op=15:=by
        have h:=HL2.out;have e:l.length - 1=k:=by omega
        simp only[e] at h
        simpa [endB] using h
       clear hr hr0 hcell;generalize l[k]=i0 at*;obtain⟨io,ia,ib,ic⟩:=i0
       dsimp only at c0 c1 c2 c3 o1 o2 hO
       have hW1:wrB ⟨io,ia,ib,ic⟩=false:=by simp[wrB];omega
       have hO1:9<io:=by omega
       go_wp2_with (first|(go_at_call 86;refine(writes_any _ _ _ _ _).mono ?_;rintro e w2 ⟨rfl,rfl⟩)|(go_at_call 87;refine(second_any _ _ _ _ _).mono ?_;rintro e w2 ⟨rfl,rfl⟩)|(go_at_call 88;refine(first_any _ _ _ _ _).mono ?_;rintro e w2 ⟨rfl,rfl⟩))
       all_goals first
        | (go_ret
           refine⟨ret_int ?_,?_⟩
           ·rw[HV.out,HD.out,if_pos]
            go_light
            simp_all [badB,jmpB]
           ·go_light
            repeat (first|exact hb|refine Below.alloc ?_ (by first|omega|(simp;omega)) _))
        | (refine⟨?_,?_⟩
           ·refine⟨k+1,by omega,by go_num,?_,?_⟩
            ·go_light
             repeat (first|exact hb|refine Below.alloc ?_ (by first|omega|(simp;omega)) _)
            ·show _=_
             rw[HV.out,HD.out,if_neg];go_light
             simp_all [badB,jmpB]
           ·simp[intOf];omega)
        | (exfalso;go_light;simp_all;done)
     ·go_wp2
      go_ret;exact⟨ret_int (by rw[HV.out,List.drop_of_length_le (by omega)];rfl),hb⟩
   ·have hend:endB ⟨l[l.length - 1].op,l[l.length - 1].a,l[l.length - 1].b,l[l.length - 1].c⟩=false:=by simpa using hlast
    have HV:Hid (verify l=10):=by show _=_;rw[HF.out,if_neg hlast]
    clear hlast HF;go_wp2_with (go_at_call 85;refine(ends_any _ _ _ _ _).mono ?_;rintro e w2 ⟨rfl,rfl⟩);go_ret;exact⟨ret_int HV.out.symm,hb1.alloc hb1.size _⟩
 ·have HC:=Lib.hid hc0
  have hc1:(check l == 0)=false:=by simp[hc0]
  have hc2:(check l != 0)=true:=by simp[hc0]
  clear hc0;go_enter Tryz.func66,Tryz.ntmps66;go_wp2_with fail;refine(Check_any A c l w hr ht HL.out).mono ?_;rintro e w1 ⟨rfl,hb1⟩;go_wp2;go_ret;exact⟨ret_int (by rw[verify,if_neg HC.out]),hb1⟩
end Go.Proofs.YtdjamdbamkhblabGreatDoor
