/- Slices of files, strings and open ends as rows of cells, and back: no condition. The kernel as plain mathematics: what a check answers, what each act does: no program in sight. -/
import Derived.Test.YtdjamdbamkhblacDoorKernCopy
namespace Go.Proofs.YtdjamdbamkhblacDoor
open Go.RowKit
theorem Fzq {α:Type} (f:α→List Value) (s:Nat) (hf:∀ x,(f x).length=s):∀ l:List α,(l.flatMap f).length=l.length*s
 | []=>by simp
 | x::r=>by rw[List.flatMap_cons,List.length_append,Fzq f s hf r,hf,List.length_cons,Nat.add_mul];omega
theorem Bzt {α:Type} (f:α→List Value) (s:Nat) (hf:∀ x,(f x).length=s):∀ (l:List α) (k:Nat) (h:k<l.length) (j:Nat),j<s→(l.flatMap f)[k*s+j]? =(f l[k])[j]?
 | [],k,h,_,_=>by cases h
 | x::r,0,_,j,hj=>by rw[List.flatMap_cons,Nat.zero_mul,Nat.zero_add,List.getElem?_append_left (by rw[hf];exact hj)];rfl
 | x::r,k+1,h,j,hj=>by
   rw[List.flatMap_cons,List.getElem?_append_right (by rw[hf,Nat.add_mul];omega),hf,show (k+1)*s+j - s=k*s+j by rw[Nat.add_mul];omega];exact Bzt f s hf r k (by simpa using h) j hj
theorem Gzb (l:List ByteArray) (k:Nat) (h:k<l.length):(strCells l)[k]? =some (.string l[k]):=by simp[strCells,h]
theorem RdS.rd {w:World} {B:Nat} {A:Option Addr} {l:List ByteArray} (h:RdS w B A l):Rd w B 1 A l.length (strCells l):=
 ⟨by simp[strCells],fun hn=>by
   obtain⟨b,o,e,hb,hc⟩:=h hn;refine⟨b,o,e,hb,fun j u hu=>?_⟩;have hj:j<l.length:=by simpa [strCells] using(List.getElem?_eq_some_iff.1 hu).1
   rw[Gzb l j hj] at hu;cases hu;exact hc j hj⟩
theorem RdS.of {w:World} {B:Nat} {A:Option Addr} {l:List ByteArray} (h:Rd w B 1 A l.length (strCells l)):RdS w B A l:=fun hl=>by
 obtain⟨b,o,e,hb,hc⟩:=h.2 hl;exact⟨b,o,e,hb,fun k hk=>hc _ _ (Gzb l k hk)⟩
theorem Rzj (l:List ByteArray):∀ u∈strCells l,u.oneCell'=true:=by
 intro u hu;simp only[strCells,List.mem_map] at hu;obtain⟨i,_,rfl⟩:=hu;rfl
theorem Fze (l:List Nod):(Azs l).length=l.length*4:=Fzq _ 4 (fun _=>rfl) l
theorem Dzt (l:List Nod) (k:Nat) (h:k<l.length):(Azs l)[k*4]? =some (.string l[k].name)∧(Azs l)[k*4+1]? =some (.int .i64 l[k].kind)∧(Azs l)[k*4+2]? =some (.string l[k].data)∧(Azs l)[k*4+3]? =some (.int .i64 l[k].unit):=
 ⟨Bzt _ 4 (fun _=>rfl) l k h 0 (by omega),Bzt _ 4 (fun _=>rfl) l k h 1 (by omega),Bzt _ 4 (fun _=>rfl) l k h 2 (by omega),Bzt _ 4 (fun _=>rfl) l k h 3 (by omega)⟩
theorem RdD.rd {w:World} {B:Nat} {A:Option Addr} {l:List Nod} (h:RdD w B A l):Rd w B 4 A l.length (Azs l):=
 ⟨Fze l,fun hn=>by
   obtain⟨b,o,e,hb,hc⟩:=h hn;refine⟨b,o,e,hb,fun j u hu=>?_⟩;have hj:j<l.length*4:=by rw[←Fze];exact(List.getElem?_eq_some_iff.1 hu).1
   have hm:∃ q,q<l.length∧(j=q*4∨j=q*4+1∨j=q*4+2∨j=q*4+3):=⟨j / 4,by omega,by omega⟩;obtain⟨q,hq,hm⟩:=hm;obtain⟨x0,x1,x2,x3⟩:=Dzt l q hq;obtain⟨c0,c1,c2,c3⟩:=hc q hq;rcases hm with h|h|h|h<;>subst h
   ·rw[x0] at hu;cases hu;exact c0
   ·rw[x1] at hu;cases hu;exact c1
   ·rw[x2] at hu;cases hu;exact c2
   ·rw[x3] at hu;cases hu;exact c3⟩
theorem RdD.of {w:World} {B:Nat} {A:Option Addr} {l:List Nod} (h:Rd w B 4 A l.length (Azs l)):RdD w B A l:=fun hl=>by
 obtain⟨b,o,e,hb,hc⟩:=h.2 hl;refine⟨b,o,e,hb,fun k hk=>?_⟩;obtain⟨x0,x1,x2,x3⟩:=Dzt l k hk;exact⟨hc _ _ x0,hc _ _ x1,hc _ _ x2,hc _ _ x3⟩
theorem Rz4 (l:List Nod):∀ u∈Azs l,u.oneCell'=true:=by
 intro u hu;simp only[Azs,List.mem_flatMap] at hu;obtain⟨i,_,hu⟩:=hu;simp at hu;rcases hu with h|h|h|h<;>subst h<;>rfl
theorem Fz8 (l:List Opn):(Azf l).length=l.length*3:=Fzq _ 3 (fun _=>rfl) l
theorem Czt (l:List Opn) (k:Nat) (h:k<l.length):(Azf l)[k*3]? =some (.int .i64 l[k].kind)∧(Azf l)[k*3+1]? =some (.int .i64 l[k].node)∧(Azf l)[k*3+2]? =some (.int .i64 l[k].pos):=
 ⟨Bzt _ 3 (fun _=>rfl) l k h 0 (by omega),Bzt _ 3 (fun _=>rfl) l k h 1 (by omega),Bzt _ 3 (fun _=>rfl) l k h 2 (by omega)⟩
theorem RdE.rd {w:World} {B:Nat} {A:Option Addr} {l:List Opn} (h:RdE w B A l):Rd w B 3 A l.length (Azf l):=
 ⟨Fz8 l,fun hn=>by
   obtain⟨b,o,e,hb,hc⟩:=h hn;refine⟨b,o,e,hb,fun j u hu=>?_⟩;have hj:j<l.length*3:=by rw[←Fz8];exact(List.getElem?_eq_some_iff.1 hu).1
   have hm:∃ q,q<l.length∧(j=q*3∨j=q*3+1∨j=q*3+2):=⟨j / 3,by omega,by omega⟩;obtain⟨q,hq,hm⟩:=hm;obtain⟨x0,x1,x2⟩:=Czt l q hq;obtain⟨c0,c1,c2⟩:=hc q hq;rcases hm with h|h|h<;>subst h
   ·rw[x0] at hu;cases hu;exact c0
   ·rw[x1] at hu;cases hu;exact c1
   ·rw[x2] at hu;cases hu;exact c2⟩
theorem RdE.of {w:World} {B:Nat} {A:Option Addr} {l:List Opn} (h:Rd w B 3 A l.length (Azf l)):RdE w B A l:=fun hl=>by
 obtain⟨b,o,e,hb,hc⟩:=h.2 hl;refine⟨b,o,e,hb,fun k hk=>?_⟩;obtain⟨x0,x1,x2⟩:=Czt l k hk;exact⟨hc _ _ x0,hc _ _ x1,hc _ _ x2⟩
theorem Mzo (l:List Opn):∀ u∈Azf l,u.oneCell'=true:=by
 intro u hu;simp only[Azf,List.mem_flatMap] at hu;obtain⟨i,_,hu⟩:=hu;simp at hu;rcases hu with h|h|h<;>subst h<;>rfl
theorem Czw {w:World} {base:Nat} {e:TypeId} {size n n' c:Nat} {A:Option Addr} {xs:List Value} (h:w.ownsRow base e size (.slice A n c) n' xs):A=none→n=0∧c=0:=by
 rintro rfl;rcases h.2 with⟨hv,_⟩|⟨g,cap,cur,hv,_⟩
 ·cases hv;exact⟨rfl,rfl⟩
 ·cases hv
theorem Gz2:∀ (l:List Mod) (ms:List (Value × Value)),ms.length=l.length→∀ (k:Nat) (h:k<l.length) (h':k<ms.length),(Bz1 l ms)[k*3]? =some (.string l[k].name)∧(Bz1 l ms)[k*3+1]? =some ms[k].1∧(Bz1 l ms)[k*3+2]? =some ms[k].2
 | [],_,_,k,h,_=>by cases h
 | _::_,[],hl,_,_,_=>by simp at hl
 | m::r,x::s,hl,0,_,_=>⟨rfl,rfl,rfl⟩
 | m::r,x::s,hl,k+1,h,h'=>by
   have e:∀ j,(Bz1 (m::r) (x::s))[(k+1)*3+j]? =(Bz1 r s)[k*3+j]? :=fun j=>by
    rw[show (k+1)*3+j=(k*3+j)+1+1+1 by omega];rfl
   have:=Gz2 r s (by simpa using hl) k (by simpa using h) (by simpa using h');exact⟨(e 0).trans this.1,(e 1).trans this.2.1,(e 2).trans this.2.2⟩
theorem Czx:∀ (l:List Prc) (es:List Value),es.length=l.length→∀ (k:Nat) (h:k<l.length) (h':k<es.length),(Azk l es)[k*2]? =some (.bool l[k].live)∧(Azk l es)[k*2+1]? =some es[k]
 | [],_,_,k,h,_=>by cases h
 | _::_,[],hl,_,_,_=>by simp at hl
 | m::r,x::s,hl,0,_,_=>⟨rfl,rfl⟩
 | m::r,x::s,hl,k+1,h,h'=>by
   have e:∀ j,(Azk (m::r) (x::s))[(k+1)*2+j]? =(Azk r s)[k*2+j]? :=fun j=>by
    rw[show (k+1)*2+j=(k*2+j)+1+1 by omega];rfl
   have:=Czx r s (by simpa using hl) k (by simpa using h) (by simpa using h');exact⟨(e 0).trans this.1,(e 1).trans this.2⟩
theorem ModRows.at_ {w:World} {B:Nat}:∀ {l:List Mod} {ms:List (Value × Value)},ModRows w B l ms→∀ (k:Nat) (h:k<l.length) (h':k<ms.length),w.ownsRow B 65 4 ms[k].1 l[k].code.length (Az1 l[k].code)∧w.ownsRow B 3 1 ms[k].2 l[k].data.length (intCells l[k].data)
 | [],[],_,k,h,_=>by cases h
 | _::_,_::_,h,0,_,_=>h.1
 | _::_,_::_,h,k+1,hk,hk'=>ModRows.at_ h.2 k (by simpa using hk) (by simpa using hk')
 | [],_::_,h,_,_,_=>h.elim
 | _::_,[],h,_,_,_=>h.elim
theorem PrcRows.at_ {w:World} {B:Nat}:∀ {l:List Prc} {es:List Value},PrcRows w B l es→∀ (k:Nat) (h:k<l.length) (h':k<es.length),w.ownsRow B 82 3 es[k] l[k].ends.length (Azf l[k].ends)
 | [],[],_,k,h,_=>by cases h
 | _::_,_::_,h,0,_,_=>h.1
 | _::_,_::_,h,k+1,hk,hk'=>PrcRows.at_ h.2 k (by simpa using hk) (by simpa using hk')
 | [],_::_,h,_,_,_=>h.elim
 | _::_,[],h,_,_,_=>h.elim
structure Krn.fits (k:Krn):Prop where
 m:∀ m∈k.mods,m.name.size≤140737488351232∧m.code.length*32≤140737488351232∧m.data.length*8≤140737488351232
 p:∀ p∈k.procs,p.ends.length*24≤140737488351232
 l0:k.mods.length*64≤140737488351232
 l1:k.mem.length*8≤140737488351232
 l2:k.nodes.length*48≤140737488351232
 l3:k.pipes.length*16≤140737488351232
 l4:k.procs.length*32≤140737488351232
theorem KrnAt.fits {w:World} {B:Nat} {a:KA} {k:Krn} (h:KrnAt w B a k):k.fits:=
 ⟨fun m hm=>by
   obtain⟨i,hi,rfl⟩:=List.mem_iff_getElem.1 hm;obtain⟨_,_,_,_,hc⟩:=h.mods (by omega);obtain⟨_,_,_,_,_,_,_,z⟩:=hc i hi;exact⟨z.nm,z.cl,z.dl⟩,fun p hp=>by
   obtain⟨i,hi,rfl⟩:=List.mem_iff_getElem.1 hp;obtain⟨_,_,_,_,hc⟩:=h.procs (by omega);obtain⟨_,_,_,_,z⟩:=hc i hi;exact z.el,h.l0,h.l1,h.l2,h.l3,h.l4⟩
theorem Copied.krn {w:World} {base:Nat} {V0 V1 V2 V3 V4:Value} {k:Krn} {ms:List (Value × Value)} {es:List Value} (h:Copied w base V0 V1 V2 V3 V4 k ms es) (hf:k.fits):
  ∃ a:KA, #[V0,V1,V2,V3,V4]=a.cells k∧KrnAt w w.heap.size a k:=by
 have H0:=h.mods;have H1:=h.mem;have H2:=h.nodes;have H3:=h.pipes;have H4:=h.procs;obtain⟨A0,c0,rfl⟩:=Az5 H0;obtain⟨A1,c1,rfl⟩:=Az5 H1;obtain⟨A2,c2,rfl⟩:=Az5 H2;obtain⟨A3,c3,rfl⟩:=Az5 H3;obtain⟨A4,c4,rfl⟩:=Az5 H4;refine⟨⟨A0,c0,A1,c1,A2,c2,A3,c3,A4,c4⟩,rfl,⟨fun hl=>?_,RdN.of (Rd.of_own H1),RdD.of (Rd.of_own H2),RdS.of (Rd.of_own H3),fun hl=>?_,hf.l0,hf.l1,hf.l2,hf.l3,hf.l4,Czw H0,Czw H1,Czw H2,Czw H3,Czw H4⟩⟩
 ·obtain⟨b,o,e,hb,hc⟩:=(Rd.of_own H0).2 hl
  have hlen:=h.rows.len;refine⟨b,o,e,hb,fun i hi=>?_⟩;obtain⟨x0,x1,x2⟩:=Gz2 k.mods ms hlen i hi (by omega);obtain⟨o1,o2⟩:=h.rows.at_ i hi (by omega);obtain⟨A1,c1,e1⟩:=Az5 o1;obtain⟨A2,c2,e2⟩:=Az5 o2;rw[e1] at o1 x1;rw[e2] at o2 x2;obtain⟨f1,f2,f3⟩:=hf.m _ (List.getElem_mem hi);exact⟨A1,c1,A2,c2,hc _ _ x0,hc _ _ x1,hc _ _ x2,RdI.of (Rd.of_own o1),RdN.of (Rd.of_own o2),f1,f2,f3,Czw o1,Czw o2⟩
 ·obtain⟨b,o,e,hb,hc⟩:=(Rd.of_own H4).2 hl
  have hlen:=h.ends.len;refine⟨b,o,e,hb,fun i hi=>?_⟩;obtain⟨x0,x1⟩:=Czx k.procs es hlen i hi (by omega);have o1:=h.ends.at_ i hi (by omega);obtain⟨A1,c1,e1⟩:=Az5 o1;rw[e1] at o1 x1;exact⟨A1,c1,hc _ _ x0,hc _ _ x1,RdE.of (Rd.of_own o1),hf.p _ (List.getElem_mem hi),Czw o1⟩
structure Ans where
 code:Int
 n:Int
 data:ByteArray
def empS (s:ByteArray):Bool:=s.size == 0
def noS:ByteArray:=⟨#[]⟩
def ansE (e:Int):Ans:=⟨e,0,noS⟩
def ansN (n:Nat):Ans:=⟨0,n,noS⟩
def hasP (kind pl:Int) (p:Prc):Bool:=p.ends.any fun x=>(x.kind == kind) && (x.node == pl)
def hasE (ps:List Prc) (kind pl:Int):Bool:=ps.any (hasP kind pl)
def Bzh (n:Nat) (x:Nod):Bool:=
 if x.kind=0 then empS x.name && empS x.data && (x.unit == 0)
 else if x.kind=1 then (x.unit == 0) && decide (x.data.size≤100)
 else if x.kind=2 then empS x.data && decide (0≤x.unit) && decide (x.unit<n) else false
def dupN (l:List Nod) (s:ByteArray):Bool:=l.any fun x=>x.name == s
def Bze (k:Krn) (i:Nat) (x:Nod):Bool:=
 !Bzh k.mods.length x || (!empS x.name && (!Azu x.name || (x.kind == 0) || dupN (k.nodes.take i) x.name)) || ((x.kind != 0) && empS x.name && !hasE k.procs 1 i)
def endOk (k:Krn) (x:Opn):Bool:=
 if x.kind=0 then (x.node == 0) && (x.pos == 0)
 else if x.kind=1 then decide (0≤x.node∧x.node<8) && ((k.nodes.getD x.node.toNat default).kind != 0) && decide (0≤x.pos∧x.pos≤100)
 else if x.kind=2∨x.kind=3 then decide (0≤x.node∧x.node<6) && (x.pos == 0) else false
def Azv (k:Krn) (p:Prc):Bool:=(p.ends.length != 6) || p.ends.any fun x=> !endOk k x || (!p.live && (x.kind != 0))
def Bzg (k:Krn) (i:Nat) (s:ByteArray):Bool:=decide (20<s.size) || (!empS s && !hasE k.procs 2 i)
def anyI {α:Type} (p:Nat→α→Bool):List α→Nat→Bool
 | [],_=>false
 | x::r,k=>p k x || anyI p r (k+1)
def Czv:List Mod→List Mod→Int
 | _,[]=>0
 | pre,m::r=>if Az7 m=0 then (if pre.any (fun x=>x.name == m.name) then 7 else Czv (pre++ [m]) r) else Az7 m
def Bz3 (k:Krn):Int:=
 if 8<k.mods.length∨k.mem.length≠1024∨k.nodes.length≠8∨k.pipes.length≠6∨k.procs.length≠4 then 1
 else if Czv [] k.mods=0 then (if k.mem.any oddW then 2 else if anyI (Bze k) k.nodes 0 || k.procs.any (Azv k) || anyI (Bzg k) k.pipes 0 then 9 else 0)
 else Czv [] k.mods
def Bzp (k:Krn) (s:ByteArray):Int:=idxF (fun x:Nod=>(x.kind != 0) && (x.name == s)) k.nodes 0
def Ez5 (k:Krn):Int:=idxF (fun x:Nod=>x.kind == 0) k.nodes 0
def Cz4 (l:List Opn):Int:=idxF (fun x:Opn=>x.kind == 0) l 0
def Dzn (k:Krn):Int:=idxF (fun p:Prc=> !p.live) k.procs 0
def mapI {α:Type} (f:Nat→α→α):List α→Nat→List α
 | [],_=>[]
 | x::r,k=>f k x::mapI f r (k+1)
def Cz2 (ps:List Prc) (i:Nat) (x:Nod):Nod:=if empS x.name && !hasE ps 1 i then default else x
def Ezl (ps:List Prc) (i:Nat) (s:ByteArray):ByteArray:=if hasE ps 2 i then s else noS
def Cza (k:Krn):Krn:= { k with nodes:=mapI (Cz2 k.procs) k.nodes 0,pipes:=mapI (Ezl k.procs) k.pipes 0 }
def setEnd (k:Krn) (p i:Nat) (x:Opn):Krn:=
 { k with procs:=k.procs.set p { (k.procs.getD p default) with ends:=(k.procs.getD p default).ends.set i x } }
def setNod (k:Krn) (i:Nat) (x:Nod):Krn:= { k with nodes:=k.nodes.set i x }
def Bzm (k:Krn) (s:ByteArray):Krn × Ans:=
 match decE s.data.toList Az7 with
 | (none,e)=>(k,ansE e)
 | (some m,_)=>
  if k.mods.any (fun x=>x.name == m.name) then (k,ansE 7)
  else if k.mods.length=8 then (k,ansE 8)
  else ({ k with mods:=k.mods++ [m],mem:=k.mem.take (64*k.mods.length)++(m.data++List.replicate (64 - m.data.length) 0)++k.mem.drop (64*k.mods.length+64) },ansN k.mods.length)
def Bzq (k:Krn) (s:ByteArray) (x:Nod):Krn × Ans:=
 if Azu s then
  if 0≤Bzp k s then (k,ansE 7)
  else if x.kind=2∧(x.unit<0∨k.mods.length≤x.unit) then (k,ansE 6)
  else if Ez5 k<0 then (k,ansE 8)
  else (setNod k (Ez5 k).toNat { x with name:=s },ansN (Ez5 k).toNat)
 else (k,ansE 4)
def Fz2 (k:Krn) (s:ByteArray):Krn × Ans:=
 if empS s∨Bzp k s<0 then (k,ansE 6)
 else (Cza (setNod k (Bzp k s).toNat { (k.nodes.getD (Bzp k s).toNat default) with name:=noS }),ansN 0)
def askK (k:Krn) (u:Nat) (n:Nat):Option (Nat × Krn):=
 match runs (k.mods.getD u default).code 2000 ⟨0,[],[n,0,0,0,64*u,64*u,63,0],[],k.mem.map Int.toNat⟩ with
 | (s,en)=>if en=1 then some (s.regs.getD 0 0, { k with mem:=s.mem.map fun (x:Nat)=>(x:Int) }) else none
def Azq:Krn→Nat→List UInt8→Nat × Krn
 | k,_,[]=>(0,k)
 | k,u,c::r=>match askK k u c.toNat with
   | none=>(0,k)
   | some (_,k')=>((Azq k' u r).1+1,(Azq k' u r).2)
def Hze (k:Krn) (p:Nat) (s:ByteArray):Krn × Ans:=
 if Azu s then
  if Bzp k s<0 then (k,ansE 6)
  else if Cz4 (k.procs.getD p default).ends<0 then (k,ansE 8)
  else (setEnd k p (Cz4 (k.procs.getD p default).ends).toNat ⟨1,Bzp k s,0⟩,ansN (Cz4 (k.procs.getD p default).ends).toNat)
 else (k,ansE 4)
def Bz6 (k:Krn):Int:=idxF (fun i:Nat=> !hasE k.procs 2 i && !hasE k.procs 3 i) [0,1,2,3,4,5] 0
def Hzg (k:Krn) (p:Nat):Krn × Ans:=
 let a:=Cz4 (k.procs.getD p default).ends
 let n:=Bz6 k
 if a<0∨n<0 then (k,ansE 8)
 else
  let k1:=setEnd k p a.toNat ⟨2,n,0⟩
  let b:=Cz4 (k1.procs.getD p default).ends
  if b<0 then (k,ansE 8) else (setEnd k1 p b.toNat ⟨3,n,0⟩,ansN a.toNat)
def Hz5 (k:Krn) (p:Nat):Krn × Ans:=
 if Dzn k<0 then (k,ansE 8) else ({ k with procs:=k.procs.set (Dzn k).toNat ⟨true,(k.procs.getD p default).ends⟩ },ansN (Dzn k).toNat)
def Mzp (k:Krn) (p:Nat):Krn × Ans:=(Cza { k with procs:=k.procs.set p ⟨false,List.replicate 6 default⟩ },ansN 0)
def cutS (s:ByteArray) (a b:Nat):ByteArray:=⟨((s.data.toList.take b).drop a).toArray⟩
def Cz7 (k:Krn) (p i:Nat) (many:Int):Krn × Ans:=
 let x:=(k.procs.getD p default).ends.getD i default
 if many<1∨100<many then (k,ansE 2)
 else if x.kind=2 then
  let s:=k.pipes.getD x.node.toNat noS
  if empS s then (k,ansE (if hasE k.procs 3 x.node then 13 else 12))
  else
   let m:=min many.toNat s.size
   ({ k with pipes:=k.pipes.set x.node.toNat (cutS s m s.size) },⟨0,m,cutS s 0 m⟩)
 else
  let d:=k.nodes.getD x.node.toNat default
  if d.kind=2 then
   match askK k d.unit.toNat 256 with
   | none=>(k,ansE 14)
   | some (v,k')=>(k',⟨0,1,⟨#[UInt8.ofNat v]⟩⟩)
  else if d.data.size≤x.pos.toNat then (k,ansE 12)
  else
   let m:=min many.toNat (d.data.size - x.pos.toNat)
   (setEnd k p i { x with pos:=x.pos+m },⟨0,m,cutS d.data x.pos.toNat (x.pos.toNat+m)⟩)
def overS (d s:List UInt8) (pos:Nat):List UInt8:=(d++List.replicate (pos - d.length) 0).take pos++s++d.drop (pos+s.length)
def Azw (k:Krn) (p i:Nat) (s:ByteArray):Krn × Ans:=
 let x:=(k.procs.getD p default).ends.getD i default
 if empS s∨100<s.size then (k,ansE 2)
 else if x.kind=3 then
  let t:=k.pipes.getD x.node.toNat noS
  if hasE k.procs 2 x.node=false then (k,ansE 12)
  else if t.size=20 then (k,ansE 13)
  else
   let m:=min (20 - t.size) s.size
   ({ k with pipes:=k.pipes.set x.node.toNat ⟨(t.data.toList++s.data.toList.take m).toArray⟩ },ansN m)
 else
  let d:=k.nodes.getD x.node.toNat default
  if d.kind=2 then
   let r:=Azq k d.unit.toNat s.data.toList
   if r.1=0 then (r.2,ansE 14) else (r.2,ansN r.1)
  else
   let m:=min s.size (100 - x.pos.toNat)
   if m=0 then (k,ansE 8)
   else (setEnd (setNod k x.node.toNat { d with data:=⟨(overS d.data.data.toList (s.data.toList.take m) x.pos.toNat).toArray⟩ }) p i { x with pos:=x.pos+m },ansN m)
def byK (k:Krn) (p:Nat) (a:Akt):Krn × Ans:=
 if a.kind=5 then Hze k p a.name
 else if a.kind=9 then Hzg k p
 else if a.kind=10 then Hz5 k p
 else if a.kind=11 then Mzp k p
 else
  let x:=(k.procs.getD p default).ends.getD a.n.toNat default
  if a.n<0∨6≤a.n∨x.kind=0 then (k,ansE 6)
  else if a.kind=6 then (Cza (setEnd k p a.n.toNat default),ansN 0)
  else if (a.kind=7∧x.kind=3)∨(a.kind=8∧x.kind=2) then (k,ansE 3)
  else if a.kind=7 then Cz7 k p a.n.toNat a.m
  else Azw k p a.n.toNat a.data
def doK (k:Krn) (a:Akt):Krn × Ans:=
 if a.kind=1 then Bzm k a.data
 else if a.kind=2 then Bzq k a.name ⟨noS,1,noS,0⟩
 else if a.kind=3 then Bzq k a.name ⟨noS,2,noS,a.n⟩
 else if a.kind=4 then Fz2 k a.name
 else if 0≤a.p∧a.p<4∧(k.procs.getD a.p.toNat default).live=true then byK k a.p.toNat a
 else (k,ansE 6)
def doE (k:Krn) (a:Akt):Int:=if Bz3 k=0 then (if a.kind<1∨11<a.kind then 3 else 0) else Bz3 k
def newK:Krn:=⟨[],List.replicate 1024 0,List.replicate 8 default,List.replicate 6 noS,⟨true,List.replicate 6 default⟩::List.replicate 3 ⟨false,List.replicate 6 default⟩⟩
def runK:Krn→List Akt→Krn × List Ans
 | k,[]=>(k,[])
 | k,a::r=>if doE k a=0 then ((runK (doK k a).1 r).1,(doK k a).2::(runK (doK k a).1 r).2) else ((runK k r).1,ansE (doE k a)::(runK k r).2)
theorem Lze:Bz3 newK=0:=by decide+kernel
end Go.Proofs.YtdjamdbamkhblacDoor
