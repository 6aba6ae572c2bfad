/- Slices of files, strings and open ends as rows of cells, and back: no condition. Modules as bytes, and back: what decoding an encoding answers, and that a byte that is changed is seen: plain mathematics. The walk of the reference's In. The walks of code.Check and of its reference: what they return, for every code. The walk of the reference's CodeFault: what it returns, for every code. The walks of safe.Verify and of its reference: what they return, for every code. The walk of safe.Verify: what it returns, for every code. -/
import Derived.Test.YtdjamdbamkhblacGreatDoorG02
import Derived.Deep.Light
set_option maxHeartbeats 4000000
namespace Go.Proofs.YtdjamdbamkhblacGreatDoor
open Go.RowKit
theorem Gz0 {α:Type} (f:α→List Value) (s:Nat) (hf:∀ x,(f x).length=s):∀ l:List α,(l.flatMap f).length=l.length*s
 | []=>by simp
 | x::r=>by rw[List.flatMap_cons,List.length_append,Gz0 f s hf r,hf,List.length_cons,Nat.add_mul];omega
theorem Czh {α:Type} (f:α→List Value) (s:Nat) (hf:∀ x,(f x).length=s):∀ (l:List α) (k:Nat) (h:k<l.length) (j:Nat),j<s→(l.flatMap f)[k*s+j]? =(f l[k])[j]?
 | [],k,h,_,_=>by cases h
 | x::r,0,_,j,hj=>by rw[List.flatMap_cons,Nat.zero_mul,Nat.zero_add,List.getElem?_append_left (by rw[hf];exact hj)];rfl
 | x::r,k+1,h,j,hj=>by
   rw[List.flatMap_cons,List.getElem?_append_right (by rw[hf,Nat.add_mul];omega),hf,show (k+1)*s+j - s=k*s+j by rw[Nat.add_mul];omega];exact Czh f s hf r k (by simpa using h) j hj
theorem Gzm (l:List ByteArray) (k:Nat) (h:k<l.length):(strCells l)[k]? =some (.string l[k]):=by simp[strCells,h]
theorem RdS.rd {w:World} {B:Nat} {A:Option Addr} {l:List ByteArray} (h:RdS w B A l):Rd w B 1 A l.length (strCells l):=
 ⟨by simp[strCells],fun hn=>by
   obtain⟨b,o,e,hb,hc⟩:=h hn;refine⟨b,o,e,hb,fun j u hu=>?_⟩;have hj:j<l.length:=by simpa [strCells] using(List.getElem?_eq_some_iff.1 hu).1
   rw[Gzm l j hj] at hu;cases hu;exact hc j hj⟩
theorem RdS.of {w:World} {B:Nat} {A:Option Addr} {l:List ByteArray} (h:Rd w B 1 A l.length (strCells l)):RdS w B A l:=fun hl=>by
 obtain⟨b,o,e,hb,hc⟩:=h.2 hl;exact⟨b,o,e,hb,fun k hk=>hc _ _ (Gzm l k hk)⟩
theorem Oza (l:List ByteArray):∀ u∈strCells l,u.oneCell'=true:=by
 intro u hu;simp only[strCells,List.mem_map] at hu;obtain⟨i,_,rfl⟩:=hu;rfl
theorem Fzr (l:List Nod):(Azk l).length=l.length*4:=Gz0 _ 4 (fun _=>rfl) l
theorem Ez2 (l:List Nod) (k:Nat) (h:k<l.length):(Azk l)[k*4]? =some (.string l[k].name)∧(Azk l)[k*4+1]? =some (.int .i64 l[k].kind)∧(Azk l)[k*4+2]? =some (.string l[k].data)∧(Azk l)[k*4+3]? =some (.int .i64 l[k].unit):=
 ⟨Czh _ 4 (fun _=>rfl) l k h 0 (by omega),Czh _ 4 (fun _=>rfl) l k h 1 (by omega),Czh _ 4 (fun _=>rfl) l k h 2 (by omega),Czh _ 4 (fun _=>rfl) l k h 3 (by omega)⟩
theorem RdD.rd {w:World} {B:Nat} {A:Option Addr} {l:List Nod} (h:RdD w B A l):Rd w B 4 A l.length (Azk l):=
 ⟨Fzr l,fun hn=>by
   obtain⟨b,o,e,hb,hc⟩:=h hn;refine⟨b,o,e,hb,fun j u hu=>?_⟩;have hj:j<l.length*4:=by rw[←Fzr];exact(List.getElem?_eq_some_iff.1 hu).1
   have hm:∃ q,q<l.length∧(j=q*4∨j=q*4+1∨j=q*4+2∨j=q*4+3):=⟨j / 4,by omega,by omega⟩;obtain⟨q,hq,hm⟩:=hm;obtain⟨x0,x1,x2,x3⟩:=Ez2 l q hq;obtain⟨c0,c1,c2,c3⟩:=hc q hq;rcases hm with h|h|h|h<;>subst h
   ·rw[x0] at hu;cases hu;exact c0
   ·rw[x1] at hu;cases hu;exact c1
   ·rw[x2] at hu;cases hu;exact c2
   ·rw[x3] at hu;cases hu;exact c3⟩
theorem RdD.of {w:World} {B:Nat} {A:Option Addr} {l:List Nod} (h:Rd w B 4 A l.length (Azk l)):RdD w B A l:=fun hl=>by
 obtain⟨b,o,e,hb,hc⟩:=h.2 hl;refine⟨b,o,e,hb,fun k hk=>?_⟩;obtain⟨x0,x1,x2,x3⟩:=Ez2 l k hk;exact⟨hc _ _ x0,hc _ _ x1,hc _ _ x2,hc _ _ x3⟩
theorem Nzn (l:List Nod):∀ u∈Azk l,u.oneCell'=true:=by
 intro u hu;simp only[Azk,List.mem_flatMap] at hu;obtain⟨i,_,hu⟩:=hu;simp at hu;rcases hu with h|h|h|h<;>subst h<;>rfl
theorem Fzl (l:List Opn):(Azg l).length=l.length*3:=Gz0 _ 3 (fun _=>rfl) l
theorem Dz9 (l:List Opn) (k:Nat) (h:k<l.length):(Azg l)[k*3]? =some (.int .i64 l[k].kind)∧(Azg l)[k*3+1]? =some (.int .i64 l[k].node)∧(Azg l)[k*3+2]? =some (.int .i64 l[k].pos):=
 ⟨Czh _ 3 (fun _=>rfl) l k h 0 (by omega),Czh _ 3 (fun _=>rfl) l k h 1 (by omega),Czh _ 3 (fun _=>rfl) l k h 2 (by omega)⟩
theorem RdE.rd {w:World} {B:Nat} {A:Option Addr} {l:List Opn} (h:RdE w B A l):Rd w B 3 A l.length (Azg l):=
 ⟨Fzl l,fun hn=>by
   obtain⟨b,o,e,hb,hc⟩:=h hn;refine⟨b,o,e,hb,fun j u hu=>?_⟩;have hj:j<l.length*3:=by rw[←Fzl];exact(List.getElem?_eq_some_iff.1 hu).1
   have hm:∃ q,q<l.length∧(j=q*3∨j=q*3+1∨j=q*3+2):=⟨j / 3,by omega,by omega⟩;obtain⟨q,hq,hm⟩:=hm;obtain⟨x0,x1,x2⟩:=Dz9 l q hq;obtain⟨c0,c1,c2⟩:=hc q hq;rcases hm with h|h|h<;>subst h
   ·rw[x0] at hu;cases hu;exact c0
   ·rw[x1] at hu;cases hu;exact c1
   ·rw[x2] at hu;cases hu;exact c2⟩
theorem RdE.of {w:World} {B:Nat} {A:Option Addr} {l:List Opn} (h:Rd w B 3 A l.length (Azg l)):RdE w B A l:=fun hl=>by
 obtain⟨b,o,e,hb,hc⟩:=h.2 hl;refine⟨b,o,e,hb,fun k hk=>?_⟩;obtain⟨x0,x1,x2⟩:=Dz9 l k hk;exact⟨hc _ _ x0,hc _ _ x1,hc _ _ x2⟩
theorem Hzm (l:List Opn):∀ u∈Azg l,u.oneCell'=true:=by
 intro u hu;simp only[Azg,List.mem_flatMap] at hu;obtain⟨i,_,hu⟩:=hu;simp at hu;rcases hu with h|h|h<;>subst h<;>rfl
theorem Dze {w:World} {base:Nat} {e:TypeId} {size n n' c:Nat} {A:Option Addr} {xs:List Value} (h:w.ownsRow base e size (.slice A n c) n' xs):A=none→n=0∧c=0:=by
 rintro rfl;rcases h.2 with⟨hv,_⟩|⟨g,cap,cur,hv,_⟩
 ·cases hv;exact⟨rfl,rfl⟩
 ·cases hv
theorem Gzi:∀ (l:List Mod) (ms:List (Value × Value)),ms.length=l.length→∀ (k:Nat) (h:k<l.length) (h':k<ms.length),(Azy l ms)[k*3]? =some (.string l[k].name)∧(Azy l ms)[k*3+1]? =some ms[k].1∧(Azy l ms)[k*3+2]? =some ms[k].2
 | [],_,_,k,h,_=>by cases h
 | _::_,[],hl,_,_,_=>by simp at hl
 | m::r,x::s,hl,0,_,_=>⟨rfl,rfl,rfl⟩
 | m::r,x::s,hl,k+1,h,h'=>by
   have e:∀ j,(Azy (m::r) (x::s))[(k+1)*3+j]? =(Azy r s)[k*3+j]? :=fun j=>by
    rw[show (k+1)*3+j=(k*3+j)+1+1+1 by omega];rfl
   have:=Gzi r s (by simpa using hl) k (by simpa using h) (by simpa using h');exact⟨(e 0).trans this.1,(e 1).trans this.2.1,(e 2).trans this.2.2⟩
theorem Czp:∀ (l:List Prc) (es:List Value),es.length=l.length→∀ (k:Nat) (h:k<l.length) (h':k<es.length),(Azq l es)[k*2]? =some (.bool l[k].live)∧(Azq l es)[k*2+1]? =some es[k]
 | [],_,_,k,h,_=>by cases h
 | _::_,[],hl,_,_,_=>by simp at hl
 | m::r,x::s,hl,0,_,_=>⟨rfl,rfl⟩
 | m::r,x::s,hl,k+1,h,h'=>by
   have e:∀ j,(Azq (m::r) (x::s))[(k+1)*2+j]? =(Azq r s)[k*2+j]? :=fun j=>by
    rw[show (k+1)*2+j=(k*2+j)+1+1 by omega];rfl
   have:=Czp r s (by simpa using hl) k (by simpa using h) (by simpa using h');exact⟨(e 0).trans this.1,(e 1).trans this.2⟩
theorem ModRows.at_ {w:World} {B:Nat}:∀ {l:List Mod} {ms:List (Value × Value)},ModRows w B l ms→∀ (k:Nat) (h:k<l.length) (h':k<ms.length),w.ownsRow B 104 4 ms[k].1 l[k].code.length (Azc l[k].code)∧w.ownsRow B 3 1 ms[k].2 l[k].data.length (intCells l[k].data)
 | [],[],_,k,h,_=>by cases h
 | _::_,_::_,h,0,_,_=>h.1
 | _::_,_::_,h,k+1,hk,hk'=>ModRows.at_ h.2 k (by simpa using hk) (by simpa using hk')
 | [],_::_,h,_,_,_=>h.elim
 | _::_,[],h,_,_,_=>h.elim
theorem PrcRows.at_ {w:World} {B:Nat}:∀ {l:List Prc} {es:List Value},PrcRows w B l es→∀ (k:Nat) (h:k<l.length) (h':k<es.length),w.ownsRow B 54 3 es[k] l[k].ends.length (Azg l[k].ends)
 | [],[],_,k,h,_=>by cases h
 | _::_,_::_,h,0,_,_=>h.1
 | _::_,_::_,h,k+1,hk,hk'=>PrcRows.at_ h.2 k (by simpa using hk) (by simpa using hk')
 | [],_::_,h,_,_,_=>h.elim
 | _::_,[],h,_,_,_=>h.elim
structure Krn.fits (k:Krn):Prop where
 m:∀ m∈k.mods,m.name.size≤140737488351232∧m.code.length*32≤140737488351232∧m.data.length*8≤140737488351232
 p:∀ p∈k.procs,p.ends.length*24≤140737488351232
 l0:k.mods.length*64≤140737488351232
 l1:k.mem.length*8≤140737488351232
 l2:k.nodes.length*48≤140737488351232
 l3:k.pipes.length*16≤140737488351232
 l4:k.procs.length*32≤140737488351232
theorem KrnAt.fits {w:World} {B:Nat} {a:KA} {k:Krn} (h:KrnAt w B a k):k.fits:=
 ⟨fun m hm=>by
   obtain⟨i,hi,rfl⟩:=List.mem_iff_getElem.1 hm;obtain⟨_,_,_,_,hc⟩:=h.mods (by omega);obtain⟨_,_,_,_,_,_,_,z⟩:=hc i hi;exact⟨z.nm,z.cl,z.dl⟩,fun p hp=>by
   obtain⟨i,hi,rfl⟩:=List.mem_iff_getElem.1 hp;obtain⟨_,_,_,_,hc⟩:=h.procs (by omega);obtain⟨_,_,_,_,z⟩:=hc i hi;exact z.el,h.l0,h.l1,h.l2,h.l3,h.l4⟩
theorem Copied.krn {w:World} {base:Nat} {V0 V1 V2 V3 V4:Value} {k:Krn} {ms:List (Value × Value)} {es:List Value} (h:Copied w base V0 V1 V2 V3 V4 k ms es) (hf:k.fits):
  ∃ a:KA, #[V0,V1,V2,V3,V4]=a.cells k∧KrnAt w w.heap.size a k:=by
 have H0:=h.mods;have H1:=h.mem;have H2:=h.nodes;have H3:=h.pipes;have H4:=h.procs;obtain⟨A0,c0,rfl⟩:=Az1 H0;obtain⟨A1,c1,rfl⟩:=Az1 H1;obtain⟨A2,c2,rfl⟩:=Az1 H2;obtain⟨A3,c3,rfl⟩:=Az1 H3;obtain⟨A4,c4,rfl⟩:=Az1 H4;refine⟨⟨A0,c0,A1,c1,A2,c2,A3,c3,A4,c4⟩,rfl,⟨fun hl=>?_,RdN.of (Rd.of_own H1),RdD.of (Rd.of_own H2),RdS.of (Rd.of_own H3),fun hl=>?_,hf.l0,hf.l1,hf.l2,hf.l3,hf.l4,Dze H0,Dze H1,Dze H2,Dze H3,Dze H4⟩⟩
 ·obtain⟨b,o,e,hb,hc⟩:=(Rd.of_own H0).2 hl
  have hlen:=h.rows.len;refine⟨b,o,e,hb,fun i hi=>?_⟩;obtain⟨x0,x1,x2⟩:=Gzi k.mods ms hlen i hi (by omega);obtain⟨o1,o2⟩:=h.rows.at_ i hi (by omega);obtain⟨A1,c1,e1⟩:=Az1 o1;obtain⟨A2,c2,e2⟩:=Az1 o2;rw[e1] at o1 x1;rw[e2] at o2 x2;obtain⟨f1,f2,f3⟩:=hf.m _ (List.getElem_mem hi);exact⟨A1,c1,A2,c2,hc _ _ x0,hc _ _ x1,hc _ _ x2,RdI.of (Rd.of_own o1),RdN.of (Rd.of_own o2),f1,f2,f3,Dze o1,Dze o2⟩
 ·obtain⟨b,o,e,hb,hc⟩:=(Rd.of_own H4).2 hl
  have hlen:=h.ends.len;refine⟨b,o,e,hb,fun i hi=>?_⟩;obtain⟨x0,x1⟩:=Czp k.procs es hlen i hi (by omega);have o1:=h.ends.at_ i hi (by omega);obtain⟨A1,c1,e1⟩:=Az1 o1;rw[e1] at o1 x1;exact⟨A1,c1,hc _ _ x0,hc _ _ x1,RdE.of (Rd.of_own o1),hf.p _ (List.getElem_mem hi),Dze o1⟩
def u8 (n:Nat):UInt8:=UInt8.ofNat n
theorem Lze (n:Nat):(u8 n).toNat=n % 256:=by simp[u8]
theorem Tzk (c:UInt8):c.toNat<256:=UInt8.toNat_lt c
def two (n:Nat):List UInt8:=[u8 (n / 256),u8 n]
def adl:List UInt8→Nat→Nat→Nat × Nat
 | [],x,y=>(x,y)
 | c::r,x,y=>adl r ((x+c.toNat) % 65521) ((y+(x+c.toNat) % 65521) % 65521)
def Dzn (l:List UInt8):List UInt8:=two (adl l 1 0).2++two (adl l 1 0).1
def getI:Nat→List UInt8→Option (List Ins × List UInt8)
 | 0,r=>some ([],r)
 | k+1,o::ab::c::d::r=>(getI k r).map fun x=>(⟨(o.toNat:Int),(ab.toNat / 16:Nat),(ab.toNat % 16:Nat),(256*c.toNat+d.toNat:Nat)⟩::x.1,x.2)
 | _+1,_=>none
def getW:Nat→List UInt8→Option (List Int × List UInt8)
 | 0,r=>some ([],r)
 | k+1,c::d::r=>(getW k r).map fun x=>(((256*c.toNat+d.toNat:Nat):Int)::x.1,x.2)
 | _+1,_=>none
def getM:List UInt8→Option (Mod × List UInt8)
 | []=>none
 | n::r=>if r.length<n.toNat then none else
   match r.drop n.toNat with
   | []=>none
   | k::r1=>(getI k.toNat r1).bind fun x=>
     match x.2 with
     | []=>none
     | j::r2=>(getW j.toNat r2).map fun y=>(⟨⟨(r.take n.toNat).toArray⟩,x.1,y.1⟩,y.2)
def decE (s:List UInt8) (ck:Mod→Int):Option Mod × Int:=
 if 4000<s.length then (none,1) else if s.length<4 then (none,5) else if Dzn (s.drop 4)≠s.take 4 then (none,11) else
 match getM (s.drop 4) with
 | none=>(none,5)
 | some (m,r)=>if r≠ [] then (none,4) else if ck m=0 then (some m,0) else (none,ck m)
theorem Gza {s:List UInt8} {ck:Mod→Int} {m:Mod} {e:Int} (h:decE s ck=(some m,e)):ck m=0∧e=0:=by
 unfold decE at h;split at h
 ·cases h
 split at h
 ·cases h
 split at h
 ·cases h
 split at h
 ·cases h
 split at h
 ·cases h
 split at h
 ·cases h
  exact⟨by assumption,rfl⟩
 ·cases h
theorem Izl {s:List UInt8} {ck:Mod→Int} {e:Int} (h:decE s ck=(none,e)):e≠0:=by
 unfold decE at h;split at h
 ·cases h;decide
 split at h
 ·cases h;decide
 split at h
 ·cases h;decide
 split at h
 ·cases h;decide
 split at h
 ·cases h;decide
 split at h
 ·cases h
 ·cases h;assumption
def inB (n lo hi:Int):Bool:=decide (lo≤n) && decide (n≤hi)
theorem Azl {n lo hi:Int} (h1:lo≤n) (h2:n≤hi):inB n lo hi=true:=by simp[inB,h1,h2]
theorem Azp {n lo hi:Int} (h:n<lo∨hi<n):inB n lo hi=false:=by
 rcases h with h|h
 ·simp[inB];omega
 ·simp[inB];omega
theorem Azi (n lo hi:Int) (w:World):
  Calls Tryz.prog 21 #[.int .i64 n, .int .i64 lo, .int .i64 hi] w fun e w'=>e= .returned (.bool (inB n lo hi))∧w=w':=by
 by_cases h1:lo≤n<;>by_cases h2:n≤hi
 all_goals
  go_enter Tryz.func21,Tryz.ntmps21;go_wp2;go_ret;simp[inB,h1,h2]
theorem Cz5 (n:Int) (w:World):Calls Tryz.prog 86 #[.int .i64 n] w fun e w'=>e= .returned (.bool (inB n 0 65535))∧w=w':=by
 go_enter Tryz.func86,Tryz.ntmps86;go_wp2_with (go_at_call 21;refine(Azi _ _ _ _).mono ?_;rintro e w' ⟨rfl,rfl⟩);go_ret;exact⟨rfl,rfl⟩
def grt (c:Int):Int:=if c == 114 then 7 else if c == 119 then 65535 else if c == 112 then 199 else 0
def shp (q:Nat):ByteArray:=
 match q with
 | 1=>⟨#[114,45,119]⟩|2=>⟨#[114,114,114]⟩|3=>⟨#[114,114,114]⟩|4=>⟨#[114,114,114]⟩|5=>⟨#[114,114,114]⟩|6=>⟨#[114,114,114]⟩|7=>⟨#[114,114,114]⟩
 | 8=>⟨#[114,114,45]⟩|9=>⟨#[114,114,45]⟩|10=>⟨#[45,45,112]⟩|11=>⟨#[114,45,112]⟩|12=>⟨#[45,45,112]⟩|13=>⟨#[45,45,45]⟩|14=>⟨#[114,45,45]⟩|15=>⟨#[45,45,45]⟩
 | _=>⟨#[]⟩
def gA (op:Int):Int:=if op=10∨op=12∨op=13∨op=15 then 0 else 7
def gB (op:Int):Int:=if 2≤op∧op≤9 then 7 else 0
def gC (op:Int):Int:=if op=1 then 65535 else if 2≤op∧op≤7 then 7 else if op=10∨op=11∨op=12 then 199 else 0
theorem Kz3 {q:Nat} (h1:1≤q) (h2:q≤15):q=1∨q=2∨q=3∨q=4∨q=5∨q=6∨q=7∨q=8∨q=9∨q=10∨q=11∨q=12∨q=13∨q=14∨q=15:=by omega
theorem Lzc {q:Nat} (h1:1≤q) (h2:q≤15):(shp q).size=3:=by
 rcases Kz3 h1 h2 with h|h|h|h|h|h|h|h|h|h|h|h|h|h|h<;>subst h<;>rfl
theorem Jz7 {q:Nat} (h1:1≤q) (h2:q≤15) (h:(shp q).size=3):grt ((shp q)[0]'(by omega)).toNat=gA q∧grt ((shp q)[1]'(by omega)).toNat=gB q∧grt ((shp q)[2]'(by omega)).toNat=gC q:=by
 rcases Kz3 h1 h2 with h|h|h|h|h|h|h|h|h|h|h|h|h|h|h<;>subst h<;>exact⟨rfl,rfl,rfl⟩
def Tab (w:World):Prop:=0<w.heap.size∧∀ k:Nat,k<16→w.cell? ⟨0,k,none⟩=some (.string (shp k))
theorem Tab.below {w w':World} (h:Tab w) (hb:Below w.heap.size w w'):Tab w':=
 ⟨Nat.lt_of_lt_of_le h.1 hb.size,fun k hk=>(hb.cell (p:=⟨_,k,none⟩) h.1).trans (h.2 k hk)⟩
def okI (i:Ins):Bool:=decide (0≤i.a∧i.a≤gA i.op) && decide (0≤i.b∧i.b≤gB i.op) && decide (0≤i.c∧i.c≤gC i.op)
def chk:List Ins→Int
 | []=>0
 | i::r=>if i.op<1∨15<i.op then 3 else if okI i then chk r else 2
def check (l:List Ins):Int:=if 200<l.length then 1 else chk l
theorem Kzm {l:List Ins} {k:Nat} (h:k<l.length):chk (l.drop k)=if l[k].op<1∨15<l[k].op then 3 else if okI l[k] then chk (l.drop (k+1)) else 2:=by
 rw[List.drop_eq_getElem_cons h];rfl
theorem Bze (c:Int) (w:World):
  Calls Tryz.prog 103 #[.int .u8 c] w fun e w'=>e= .returned (.int .i64 (grt c))∧w=w':=by
 go_enter Tryz.func103,Tryz.ntmps103;go_wp2
 all_goals go_ret
 all_goals simp[grt, *]
theorem Dzv (c:Int) (w:World):
  Calls Tryz.prog 108 #[.int .u8 c] w fun e w'=>e= .returned (.int .i64 (grt c))∧w=w':=by
 go_enter Tryz.func108,Tryz.ntmps108;go_wp2
 all_goals go_ret
 all_goals simp[grt, *]
theorem Dzg (q:Nat) (h1:1≤q) (h2:q≤15) (w:World):
  Calls Tryz.prog 107 #[.int .i64 q] w fun e w'=>e= .returned (.string (shp q))∧w=w':=by
 rcases Kz3 h1 h2 with h|h|h|h|h|h|h|h|h|h|h|h|h|h|h<;>subst h
 all_goals
  go_enter Tryz.func107,Tryz.ntmps107;go_wp2;go_ret;exact⟨rfl,rfl⟩
theorem Czd (A:Option Addr) (c:Nat) (l:List Ins) (w:World) (hr:RdI w w.heap.size A l) (ht:Tab w) (hl:l.length≤maxLen):
  Calls Tryz.prog 88 #[.slice A l.length c] w fun e w'=>e= .returned (.int .i64 (check l))∧Below w.heap.size w w':=by
 unfold maxLen at hl;by_cases h200:200<l.length
 ·go_enter Tryz.func88,Tryz.ntmps88
  go_wp2;go_ret;exact⟨Az8 (by rw[check,if_pos h200]),Below.refl _ _⟩
 ·have hck:check l=chk (l.drop 0):=by rw[check,if_neg h200];rfl
  have HC:=Lib.hid hck;clear hck;obtain⟨h0,ht⟩:=ht;go_enter Tryz.func88,Tryz.ntmps88;go_wp2;go_loopw [12] (fun i wr=>∃ k:Nat,k≤l.length∧i= .int .i64 k∧Below w.heap.size w wr∧Hid (check l=chk (l.drop k))) (fun i _=>l.length - (intOf i).toNat)
  case atStart=>exact⟨0,Nat.zero_le _,rfl,Below.refl _ _,HC⟩
  case round=>
   clear HC;obtain⟨k,hk,rfl,hb,HC⟩:=hrel;by_cases hlt:k<l.length
   ·obtain⟨b,o,rfl,hbB,hcell⟩:=hr (by omega)
    obtain⟨c0,c1,c2,c3⟩:=hcell k hlt;rw[←hb.cell (p:=⟨b,_,none⟩) hbB] at c0 c1 c2 c3;have HD:=Lib.hid (Kzm hlt);have hz0:0<wr.heap.size:=Nat.lt_of_lt_of_le h0 hb.size;have hz1:0<wr.heap.size+1:=by omega
    have hz2:0<wr.heap.size+1+1:=by omega
    have hzb:b<wr.heap.size:=Nat.lt_of_lt_of_le hbB hb.size;have hzb1:b<wr.heap.size+1:=by omega
    have hbz:=hb.size;clear hr hcell;by_cases hop:1≤l[k].op∧l[k].op≤15
    ·obtain⟨hop1,hop2⟩:=hop
     obtain⟨q,hq⟩:∃ q:Nat,l[k].op=q:=⟨l[k].op.toNat,by omega⟩;rw[hq] at c0 hop1 hop2;have tq:=ht q (by omega);rw[←hb.cell (p:=⟨0,_,none⟩) h0] at tq;have hs:(shp q).size=3:=Lzc (by omega) (by omega);obtain⟨hpa,hpb,hpc⟩:=Jz7 (q:=q) (by omega) (by omega) hs;have HE:Hid (okI l[k]=(decide (0≤l[k].a∧l[k].a≤grt ((shp q)[0]'(by omega)).toNat) && decide (0≤l[k].b∧l[k].b≤grt ((shp q)[1]'(by omega)).toNat) && decide (0≤l[k].c∧l[k].c≤grt ((shp q)[2]'(by omega)).toNat))):=by
      rw[hpa,hpb,hpc];unfold okI;rw[hq];exact rfl
     have HF:Hid (¬ (l[k].op<1∨15<l[k].op)):=by show ¬ _;omega
     clear ht hq hpa hpb hpc;generalize hx:l[k].a=x at*;generalize hy:l[k].b=y at*;generalize hz:l[k].c=z at*;clear hx hy hz;go_wp2;refine wp_loop_rounds 4 ?_;rw[rounds_succ];by_cases hxx:0≤x∧x≤grt ((shp q)[0]'(by omega)).toNat
     ·obtain⟨hx1,hx2⟩:=hxx
      go_wp2_with (go_at_call 103;refine(Bze _ _).mono ?_;rintro e w' ⟨rfl,rfl⟩);rw[rounds_succ];by_cases hxx:0≤y∧y≤grt ((shp q)[1]'(by omega)).toNat
      ·obtain⟨hy1,hy2⟩:=hxx
       go_wp2_with (go_at_call 103;refine(Bze _ _).mono ?_;rintro e w' ⟨rfl,rfl⟩);rw[rounds_succ];by_cases hxx:0≤z∧z≤grt ((shp q)[2]'(by omega)).toNat
       ·obtain⟨hz1,hz2⟩:=hxx
        go_wp2_with (go_at_call 103;refine(Bze _ _).mono ?_;rintro e w' ⟨rfl,rfl⟩);rw[rounds_succ];go_wp2;go_roundw
        case rel=>
         refine⟨k+1,by omega,by go_num,(hb.alloc hbz _).alloc (by simp;omega) _,?_⟩;show _=_;rw[HC.out,HD.out,if_neg HF.out,HE.out];simp[hx1,hx2,hy1,hy2,hz1,hz2]
        case measure=>simp[intOf];omega
       ·have HG:Hid (check l=2):=by
         show _=_;rw[HC.out,HD.out,if_neg HF.out,HE.out];simp[hxx]
        by_cases hz0:z<0
        ·go_wp2_with (go_at_call 103;refine(Bze _ _).mono ?_;rintro e w' ⟨rfl,rfl⟩)
         go_ret;exact⟨Az8 HG.out.symm,(hb.alloc hbz _).alloc (by simp;omega) _⟩
        ·have hz1:grt ((shp q)[2]'(by omega)).toNat<z:=by omega
         go_wp2_with (go_at_call 103;refine(Bze _ _).mono ?_;rintro e w' ⟨rfl,rfl⟩);go_ret;exact⟨Az8 HG.out.symm,(hb.alloc hbz _).alloc (by simp;omega) _⟩
      ·have HG:Hid (check l=2):=by
        show _=_;rw[HC.out,HD.out,if_neg HF.out,HE.out];simp[hxx]
       by_cases hy0:y<0
       ·go_wp2_with (go_at_call 103;refine(Bze _ _).mono ?_;rintro e w' ⟨rfl,rfl⟩)
        go_ret;exact⟨Az8 HG.out.symm,(hb.alloc hbz _).alloc (by simp;omega) _⟩
       ·have hy1:grt ((shp q)[1]'(by omega)).toNat<y:=by omega
        go_wp2_with (go_at_call 103;refine(Bze _ _).mono ?_;rintro e w' ⟨rfl,rfl⟩);go_ret;exact⟨Az8 HG.out.symm,(hb.alloc hbz _).alloc (by simp;omega) _⟩
     ·have HG:Hid (check l=2):=by
       show _=_;rw[HC.out,HD.out,if_neg HF.out,HE.out];simp[hxx]
      by_cases hx0:x<0
      ·go_wp2_with (go_at_call 103;refine(Bze _ _).mono ?_;rintro e w' ⟨rfl,rfl⟩)
       go_ret;exact⟨Az8 HG.out.symm,(hb.alloc hbz _).alloc (by simp;omega) _⟩
      ·have hx1:grt ((shp q)[0]'(by omega)).toNat<x:=by omega
       go_wp2_with (go_at_call 103;refine(Bze _ _).mono ?_;rintro e w' ⟨rfl,rfl⟩);go_ret;exact⟨Az8 HG.out.symm,(hb.alloc hbz _).alloc (by simp;omega) _⟩
    ·have HG:Hid (check l=3):=by
      show _=_;rw[HC.out,HD.out,if_pos (by omega)]
     generalize l[k].op=q at*;by_cases hop1:q<1
     ·go_wp2
      go_ret;exact⟨Az8 HG.out.symm,hb.alloc hbz _⟩
     ·have hop2:15<q:=by omega
      go_wp2;go_ret;exact⟨Az8 HG.out.symm,hb.alloc hbz _⟩
   ·go_wp2
    go_ret;exact⟨Az8 (by rw[HC.out,List.drop_of_length_le (by omega)];rfl),hb⟩
theorem Bz2 (A:Option Addr) (c:Nat) (l:List Ins) (w:World) (hr:RdI w w.heap.size A l) (hl:l.length≤maxLen):
  Calls Tryz.prog 97 #[.slice A l.length c] w fun e w'=>e= .returned (.int .i64 (check l))∧Below w.heap.size w w':=by
 unfold maxLen at hl;by_cases h200:200<l.length
 ·go_enter Tryz.func97,Tryz.ntmps97
  go_wp2;go_ret;exact⟨Az8 (by rw[check,if_pos h200]),Below.refl _ _⟩
 ·have hck:check l=chk (l.drop 0):=by rw[check,if_neg h200];rfl
  have HC:=Lib.hid hck;clear hck;go_enter Tryz.func97,Tryz.ntmps97;go_wp2;go_loopw [3] (fun i wr=>∃ k:Nat,k≤l.length∧i= .int .i64 k∧Below w.heap.size w wr∧Hid (check l=chk (l.drop k))) (fun i _=>l.length - (intOf i).toNat)
  case atStart=>exact⟨0,Nat.zero_le _,rfl,Below.refl _ _,HC⟩
  case round=>
   clear HC;obtain⟨k,hk,rfl,hb,HC⟩:=hrel;by_cases hlt:k<l.length
   ·obtain⟨b,o,rfl,hbB,hcell⟩:=hr (by omega)
    obtain⟨c0,c1,c2,c3⟩:=hcell k hlt;rw[←hb.cell (p:=⟨b,_,none⟩) hbB] at c0 c1 c2 c3;have HD:=Lib.hid (Kzm hlt);have hbz:=hb.size;clear hr hcell;by_cases hop:1≤l[k].op∧l[k].op≤15
    ·obtain⟨hop1,hop2⟩:=hop
     obtain⟨q,hq⟩:∃ q:Nat,l[k].op=q:=⟨l[k].op.toNat,by omega⟩;rw[hq] at c0 hop1 hop2;have hs:(shp q).size=3:=Lzc (by omega) (by omega);obtain⟨hpa,hpb,hpc⟩:=Jz7 (q:=q) (by omega) (by omega) hs;have HE:Hid (okI l[k]=(decide (0≤l[k].a∧l[k].a≤grt ((shp q)[0]'(by omega)).toNat) && decide (0≤l[k].b∧l[k].b≤grt ((shp q)[1]'(by omega)).toNat) && decide (0≤l[k].c∧l[k].c≤grt ((shp q)[2]'(by omega)).toNat))):=by
      rw[hpa,hpb,hpc];unfold okI;rw[hq];exact rfl
     have HF:Hid (¬ (l[k].op<1∨15<l[k].op)):=by show ¬ _;omega
     clear hq hpa hpb hpc;generalize hx:l[k].a=x at*;generalize hy:l[k].b=y at*;generalize hz:l[k].c=z at*;clear hx hy hz;have hin:inB (q:Int) 1 15=true:=Azl hop1 hop2;by_cases hxx:0≤x∧x≤grt ((shp q)[0]'(by omega)).toNat
     ·have ha:inB x 0 (grt ((shp q)[0]'(by omega)).toNat)=true:=Azl hxx.1 hxx.2
      by_cases hyy:0≤y∧y≤grt ((shp q)[1]'(by omega)).toNat
      ·have hb':inB y 0 (grt ((shp q)[1]'(by omega)).toNat)=true:=Azl hyy.1 hyy.2
       by_cases hzz:0≤z∧z≤grt ((shp q)[2]'(by omega)).toNat
       ·have hc':inB z 0 (grt ((shp q)[2]'(by omega)).toNat)=true:=Azl hzz.1 hzz.2
        go_wp2_with (first|(go_at_call 21;refine(Azi _ _ _ _).mono ?_;rintro e w' ⟨rfl,rfl⟩)|(go_at_call 107;refine(Dzg q (by omega) (by omega) _).mono ?_;rintro e w' ⟨rfl,rfl⟩));go_quiet ((first|(go_at_call 21;exact Cz0 (Azi _ _ _ _))|(go_at_call 108;exact Cz0 (Dzv _ _))));go_wp2;go_roundw
        case rel=>
         refine⟨k+1,by omega,by go_num,Below.drewN' (hb.alloc hbz _) _,?_⟩;show _=_;rw[HC.out,HD.out,if_neg HF.out,HE.out];simp[hxx,hyy,hzz]
        case measure=>simp[intOf];omega
       ·have hn:inB z 0 (grt ((shp q)[2]'(by omega)).toNat)=false:=Azp (by omega)
        have HG:Hid (check l=2):=by
         show _=_;rw[HC.out,HD.out,if_neg HF.out,HE.out];simp[hzz]
        go_wp2_with (first|(go_at_call 21;refine(Azi _ _ _ _).mono ?_;rintro e w' ⟨rfl,rfl⟩)|(go_at_call 107;refine(Dzg q (by omega) (by omega) _).mono ?_;rintro e w' ⟨rfl,rfl⟩));go_quiet ((first|(go_at_call 21;exact Cz0 (Azi _ _ _ _))|(go_at_call 108;exact Cz0 (Dzv _ _))));go_wp2;go_ret;exact⟨Az8 HG.out.symm,Below.drewN' (hb.alloc hbz _) _⟩
      ·have hn:inB y 0 (grt ((shp q)[1]'(by omega)).toNat)=false:=Azp (by omega)
       have HG:Hid (check l=2):=by
        show _=_;rw[HC.out,HD.out,if_neg HF.out,HE.out];simp[hyy]
       go_wp2_with (first|(go_at_call 21;refine(Azi _ _ _ _).mono ?_;rintro e w' ⟨rfl,rfl⟩)|(go_at_call 107;refine(Dzg q (by omega) (by omega) _).mono ?_;rintro e w' ⟨rfl,rfl⟩));go_quiet ((first|(go_at_call 21;exact Cz0 (Azi _ _ _ _))|(go_at_call 108;exact Cz0 (Dzv _ _))));go_wp2;go_ret;exact⟨Az8 HG.out.symm,Below.drewN' (hb.alloc hbz _) _⟩
     ·have hn:inB x 0 (grt ((shp q)[0]'(by omega)).toNat)=false:=Azp (by omega)
      have HG:Hid (check l=2):=by
       show _=_;rw[HC.out,HD.out,if_neg HF.out,HE.out];simp[hxx]
      go_wp2_with (first|(go_at_call 21;refine(Azi _ _ _ _).mono ?_;rintro e w' ⟨rfl,rfl⟩)|(go_at_call 107;refine(Dzg q (by omega) (by omega) _).mono ?_;rintro e w' ⟨rfl,rfl⟩));go_quiet ((first|(go_at_call 21;exact Cz0 (Azi _ _ _ _))|(go_at_call 108;exact Cz0 (Dzv _ _))));go_wp2;go_ret;exact⟨Az8 HG.out.symm,Below.drewN' (hb.alloc hbz _) _⟩
    ·have HG:Hid (check l=3):=by
      show _=_;rw[HC.out,HD.out,if_pos (by omega)]
     have hin:inB l[k].op 1 15=false:=Azp (by omega);generalize l[k].op=q at*;go_wp2_with (go_at_call 21;refine(Azi _ _ _ _).mono ?_;rintro e w' ⟨rfl,rfl⟩);go_ret;exact⟨Az8 HG.out.symm,hb.alloc hbz _⟩
   ·go_wp2
    go_ret;exact⟨Az8 (by rw[HC.out,List.drop_of_length_le (by omega)];rfl),hb⟩
set_option maxRecDepth 100000
def wrB (i:Ins):Bool:=decide (1≤i.op∧i.op≤8)
def fstB (i:Ins):Bool:=decide (i.op=4∧i.a=4∧i.c=6)
def sndB (i:Ins):Bool:=decide (i.op=5∧i.a=4∧i.b=4∧i.c=5)
def endB (i:Ins):Bool:=decide (i.op=10∨i.op=13∨i.op=15)
def jmpB (i:Ins):Bool:=decide (i.op=10∨i.op=11∨i.op=12)
theorem Fze (x y z u:Int) (w:World):
  Calls Tryz.prog 90 #[.agg #[.int .i64 x, .int .i64 y, .int .i64 z, .int .i64 u]] w fun e w'=>e= .returned (.bool (wrB ⟨x,y,z,u⟩))∧w.alloc (.cells #[.int .i64 x, .int .i64 y, .int .i64 z, .int .i64 u] 104)=w':=by
 go_enter Tryz.func90,Tryz.ntmps90;go_wp2
 all_goals go_ret
 all_goals refine⟨Az9 ?_,by simp[*]⟩
 all_goals (simp[wrB];omega)
theorem Fzb (x y z u:Int) (w:World):
  Calls Tryz.prog 91 #[.agg #[.int .i64 x, .int .i64 y, .int .i64 z, .int .i64 u]] w fun e w'=>e= .returned (.bool (sndB ⟨x,y,z,u⟩))∧w.alloc (.cells #[.int .i64 x, .int .i64 y, .int .i64 z, .int .i64 u] 104)=w':=by
 have k1:Tryz.prog.stoodInHeld 104=false:=by kernel_rfl
 have k2:Tryz.prog.eqGuardType Tryz.prog.depth 104=false:=by kernel_rfl
 go_enter Tryz.func91,Tryz.ntmps91;go_wp2
 all_goals go_ret
 all_goals refine⟨Az9 ?_,by simp[*]⟩
 all_goals (rw[Bool.eq_iff_iff];simp[sndB];omega)
theorem first_any (x y z u:Int) (w:World):
  Calls Tryz.prog 92 #[.agg #[.int .i64 x, .int .i64 y, .int .i64 z, .int .i64 u]] w fun e w'=>e= .returned (.bool (fstB ⟨x,y,z,u⟩))∧w.alloc (.cells #[.int .i64 x, .int .i64 y, .int .i64 z, .int .i64 u] 104)=w':=by
 go_enter Tryz.func92,Tryz.ntmps92;go_wp2
 all_goals go_ret
 all_goals refine⟨Az9 ?_,by simp[*]⟩
 all_goals (rw[Bool.eq_iff_iff];simp[fstB];omega)
theorem Kzp (x y z u:Int) (w:World):
  Calls Tryz.prog 89 #[.agg #[.int .i64 x, .int .i64 y, .int .i64 z, .int .i64 u]] w fun e w'=>e= .returned (.bool (endB ⟨x,y,z,u⟩))∧w.alloc (.cells #[.int .i64 x, .int .i64 y, .int .i64 z, .int .i64 u] 104)=w':=by
 go_enter Tryz.func89,Tryz.ntmps89;go_wp2
 all_goals go_ret
 all_goals refine⟨Az9 ?_,by simp[*]⟩
 all_goals (rw[Bool.eq_iff_iff];simp[endB];omega)
theorem Jz9 (x y z u:Int) (w:World):
  Calls Tryz.prog 98 #[.agg #[.int .i64 x, .int .i64 y, .int .i64 z, .int .i64 u]] w fun e w'=>e= .returned (.bool (endB ⟨x,y,z,u⟩))∧w.alloc (.cells #[.int .i64 x, .int .i64 y, .int .i64 z, .int .i64 u] 104)=w':=by
 go_enter Tryz.func98,Tryz.ntmps98;go_wp2
 all_goals go_ret
 all_goals refine⟨Az9 ?_,by simp[*]⟩
 all_goals (rw[Bool.eq_iff_iff];simp[endB];omega)
theorem Gzg (x y z u:Int) (w:World):
  Calls Tryz.prog 100 #[.agg #[.int .i64 x, .int .i64 y, .int .i64 z, .int .i64 u]] w fun e w'=>e= .returned (.bool (jmpB ⟨x,y,z,u⟩))∧w.alloc (.cells #[.int .i64 x, .int .i64 y, .int .i64 z, .int .i64 u] 104)=w':=by
 go_enter Tryz.func100,Tryz.ntmps100;go_wp2
 all_goals go_ret
 all_goals refine⟨Az9 ?_,by simp[*]⟩
 all_goals (rw[Bool.eq_iff_iff];simp[jmpB];omega)
theorem Fz7 (x y z u:Int) (w:World):
  Calls Tryz.prog 99 #[.agg #[.int .i64 x, .int .i64 y, .int .i64 z, .int .i64 u]] w fun e w'=>e= .returned (.bool (sndB ⟨x,y,z,u⟩))∧w.alloc (.cells #[.int .i64 x, .int .i64 y, .int .i64 z, .int .i64 u] 104)=w':=by
 go_enter Tryz.func99,Tryz.ntmps99;go_wp2
 all_goals go_ret
 all_goals refine⟨Az9 ?_,by simp[*]⟩
 all_goals (rw[Bool.eq_iff_iff];simp[sndB];omega)
def badB (n:Nat) (i j:Ins):Bool:=
 (wrB i && (i.a == 5 || i.a == 6)) || (wrB i && i.a == 4 && !sndB i && !(fstB i && sndB j)) || ((i.op == 8 || i.op == 9) && i.b != 4) || (jmpB i && decide (n≤i.c))
def vrf (n:Nat):List Ins→Int
 | []=>0
 | i::r=>if badB n i (r.headD default) then 10 else vrf n r
def Fzo (l:List Ins):Bool:=match l.getLast? with|none=>false|some i=>endB i
def verify (l:List Ins):Int:=if check l=0 then (if Fzo l then vrf l.length l else 10) else check l
theorem Lzf {n:Nat} {l:List Ins} {k:Nat} (h:k<l.length):vrf n (l.drop k)=if badB n l[k] (l.getD (k+1) default) then 10 else vrf n (l.drop (k+1)):=by
 rw[List.drop_eq_getElem_cons h];show (if badB n l[k] ((l.drop (k+1)).headD default) then 10 else _)=_;rw[List.headD_eq_head?_getD,List.head?_drop,List.getD_eq_getElem?_getD]
theorem Qz7 {l:List Ins} (h:chk l=0):∀ k (hk:k<l.length),1≤l[k].op∧l[k].op≤15:=by
 induction l with
 | nil=>intro k hk;cases hk
 | cons i r ih=>
   rw[chk] at h;by_cases h1:i.op<1∨15<i.op
   ·rw[if_pos h1] at h;cases h
   ·rw[if_neg h1] at h
    by_cases h2:okI i=true
    ·rw[if_pos h2] at h
     intro k hk;cases k with
     | zero=>simp;omega
     | succ k=>exact ih h k (by simpa using hk)
    ·rw[if_neg h2] at h;cases h
end Go.Proofs.YtdjamdbamkhblacGreatDoor
namespace Go.Proofs.YtdjamdbamkhblacGreatDoor
open Go.RowKit
set_option maxRecDepth 100000 in
theorem Lzs (A:Option Addr) (c:Nat) (l:List Ins) (w:World) (hr:RdI w w.heap.size A l) (ht:Tab w) (hl:l.length≤maxLen):
  Calls Tryz.prog 70 #[.slice A l.length c] w fun e w'=>e= .returned (.int .i64 (verify l))∧Below w.heap.size w w':=by
 have HL:=Lib.hid hl;unfold maxLen at hl;by_cases hc0:check l=0
 ·have HC:=Lib.hid hc0
  clear hc0;by_cases hn0:l.length=0
  ·have hn1:((l.length:Int) == 0)=true:=by simp[hn0]
   have HN:=Lib.hid hn0;clear hn0;go_enter Tryz.func70,Tryz.ntmps70;go_wp2_with fail;refine(Czd A c l w hr ht HL.out).mono ?_;rw[HC.out];rintro e w1 ⟨rfl,hb1⟩;go_wp2;go_ret;exact⟨Az8 (by rw[verify,if_pos HC.out,List.eq_nil_of_length_eq_zero HN.out];rfl),hb1⟩
  ·have hn1:((l.length:Int) == 0)=false:=by rw[beq_eq_false_iff_ne];omega
   have hr0:=hr;obtain⟨b,o,rfl,hbB,hcell⟩:=hr (by omega);obtain⟨c0,c1,c2,c3⟩:=hcell (l.length - 1) (by omega);have hbs:b<w.heap.size:=hbB;go_enter Tryz.func70,Tryz.ntmps70;go_wp2_with fail;refine(Czd (some ⟨b,o,none⟩) c l w hr0 ht HL.out).mono ?_;rw[HC.out];rintro e w1 ⟨rfl,hb1⟩;rw[←hb1.cell (p:=⟨b,_,none⟩) hbB] at c0 c1 c2 c3;have hz1:b<w1.heap.size:=Nat.lt_of_lt_of_le hbB hb1.size;have HE:Hid (Fzo l=endB l[l.length - 1]):=by
    show Fzo l=_;unfold Fzo;rw[List.getLast?_eq_getElem?,List.getElem?_eq_getElem (by omega)]
   have HF:Hid (verify l=if endB l[l.length - 1] then vrf l.length (l.drop 0) else 10):=by
    show verify l=_;rw[verify,if_pos HC.out,HE.out,List.drop_zero]
   clear HE;by_cases hlast:endB l[l.length - 1]=true
   ·have hend:endB ⟨l[l.length - 1].op,l[l.length - 1].a,l[l.length - 1].b,l[l.length - 1].c⟩=true:=hlast
    have HV:Hid (verify l=vrf l.length (l.drop 0)):=by show _=_;rw[HF.out,if_pos hlast]
    have HL2:=Lib.hid hlast;have HK:Hid (chk l=0):=by show _=_;have:=HC.out;unfold check at this;split at this<;>simp_all
    clear hlast HF;go_wp2_with (go_at_call 89;refine(Kzp _ _ _ _ _).mono ?_;rintro e w2 ⟨rfl,rfl⟩);clear c0 c1 c2 c3 hend;go_loopw [26] (fun i wr=>Cnt l.length i fun k=>Below w.heap.size w wr∧Hid (verify l=vrf l.length (l.drop k))) (fun i _=>l.length - (intOf i).toNat)
    case atStart=>exact⟨0,Nat.zero_le _,rfl,hb1.alloc hb1.size _,HV⟩
    case round=>
     clear HV;obtain⟨k,hk,rfl,hb,HV⟩:=hrel;by_cases hlt:k<l.length
     ·obtain⟨c0,c1,c2,c3⟩:=hcell k hlt
      rw[←hb.cell (p:=⟨b,_,none⟩) hbB] at c0 c1 c2 c3;have HD:Hid (vrf l.length (l.drop k)=if badB l.length l[k] (l.getD (k+1) default) then 10 else vrf l.length (l.drop (k+1))):=Lzf hlt;have hbz:=hb.size;have hzr:b<wr.heap.size:=Nat.lt_of_lt_of_le hbB hbz;have hz1:b<wr.heap.size+1:=by omega
      have hz2:b<wr.heap.size+1+1:=by omega
      have hz3:b<wr.heap.size+1+1+1:=by omega
      have hz4:b<wr.heap.size+1+1+1+1:=by omega
      have hz5:b<wr.heap.size+1+1+1+1+1:=by omega
      obtain⟨o1,o2⟩:=Qz7 HK.out k hlt;by_cases hk1:k+1<l.length
      ·obtain⟨d0,d1,d2,d3⟩:=hcell (k+1) hk1
       rw[←hb.cell (p:=⟨b,_,none⟩) hbB] at d0 d1 d2 d3;have HJ:Hid (l.getD (k+1) default=l[k+1]):=by show _=_;simp[List.getD,hk1]
       rw[HJ.out] at HD;clear hr hr0 hcell;generalize l[k]=i0 at*;generalize l[k+1]=j0 at*;obtain⟨io,ia,ib,ic⟩:=i0;obtain⟨jo,ja,jb,jc⟩:=j0
       dsimp only at c0 c1 c2 c3 d0 d1 d2 d3 o1 o2
       by_cases hW:io≤8
       ·have hW1:wrB ⟨io,ia,ib,ic⟩=true:=by simp[wrB];omega
        go_wp2_with (first|(go_at_call 90;refine(Fze _ _ _ _ _).mono ?_;rintro e w2 ⟨rfl,rfl⟩)|(go_at_call 91;refine(Fzb _ _ _ _ _).mono ?_;rintro e w2 ⟨rfl,rfl⟩)|(go_at_call 92;refine(first_any _ _ _ _ _).mono ?_;rintro e w2 ⟨rfl,rfl⟩))
        all_goals first
         | (go_ret
            refine⟨Az8 ?_,?_⟩
            ·rw[HV.out,HD.out,if_pos]
             go_light
             simp_all [badB,jmpB]
            ·go_light
             repeat (first|exact hb|refine Below.alloc ?_ (by first|omega|(simp;omega)) _))
         | (refine⟨?_,?_⟩
            ·refine⟨k+1,by omega,by go_num,?_,?_⟩
             ·go_light
              repeat (first|exact hb|refine Below.alloc ?_ (by first|omega|(simp;omega)) _)
             ·show _=_
              rw[HV.out,HD.out,if_neg];go_light
              simp_all [badB,jmpB]
            ·simp[intOf];omega)
         | (exfalso;go_light;simp_all;done)
       ·have hW1:wrB ⟨io,ia,ib,ic⟩=false:=by simp[wrB];omega
        go_wp2_with (first|(go_at_call 90;refine(Fze _ _ _ _ _).mono ?_;rintro e w2 ⟨rfl,rfl⟩)|(go_at_call 91;refine(Fzb _ _ _ _ _).mono ?_;rintro e w2 ⟨rfl,rfl⟩)|(go_at_call 92;refine(first_any _ _ _ _ _).mono ?_;rintro e w2 ⟨rfl,rfl⟩))
        all_goals first
         | (go_ret
            refine⟨Az8 ?_,?_⟩
            ·rw[HV.out,HD.out,if_pos]
             go_light
             simp_all [badB,jmpB]
            ·go_light
             repeat (first|exact hb|refine Below.alloc ?_ (by first|omega|(simp;omega)) _))
         | (refine⟨?_,?_⟩
            ·refine⟨k+1,by omega,by go_num,?_,?_⟩
             ·go_light
              repeat (first|exact hb|refine Below.alloc ?_ (by first|omega|(simp;omega)) _)
             ·show _=_
              rw[HV.out,HD.out,if_neg];go_light
              simp_all [badB,jmpB]
            ·simp[intOf];omega)
         | (exfalso;go_light;simp_all;done)
      ·have hO:l[k].op=10∨l[k].op=13∨l[k].op=15:=by
        have h:=HL2.out;have e:l.length - 1=k:=by omega
        simp only[e] at h
        simpa [endB] using h
       clear hr hr0 hcell;generalize l[k]=i0 at*;obtain⟨io,ia,ib,ic⟩:=i0
       dsimp only at c0 c1 c2 c3 o1 o2 hO
       have hW1:wrB ⟨io,ia,ib,ic⟩=false:=by simp[wrB];omega
       have hO1:9<io:=by omega
       go_wp2_with (first|(go_at_call 90;refine(Fze _ _ _ _ _).mono ?_;rintro e w2 ⟨rfl,rfl⟩)|(go_at_call 91;refine(Fzb _ _ _ _ _).mono ?_;rintro e w2 ⟨rfl,rfl⟩)|(go_at_call 92;refine(first_any _ _ _ _ _).mono ?_;rintro e w2 ⟨rfl,rfl⟩))
       all_goals first
        | (go_ret
           refine⟨Az8 ?_,?_⟩
           ·rw[HV.out,HD.out,if_pos]
            go_light
            simp_all [badB,jmpB]
           ·go_light
            repeat (first|exact hb|refine Below.alloc ?_ (by first|omega|(simp;omega)) _))
        | (refine⟨?_,?_⟩
           ·refine⟨k+1,by omega,by go_num,?_,?_⟩
            ·go_light
             repeat (first|exact hb|refine Below.alloc ?_ (by first|omega|(simp;omega)) _)
            ·show _=_
             rw[HV.out,HD.out,if_neg];go_light
             simp_all [badB,jmpB]
           ·simp[intOf];omega)
        | (exfalso;go_light;simp_all;done)
     ·go_wp2
      go_ret;exact⟨Az8 (by rw[HV.out,List.drop_of_length_le (by omega)];rfl),hb⟩
   ·have hend:endB ⟨l[l.length - 1].op,l[l.length - 1].a,l[l.length - 1].b,l[l.length - 1].c⟩=false:=by simpa using hlast
    have HV:Hid (verify l=10):=by show _=_;rw[HF.out,if_neg hlast]
    clear hlast HF;go_wp2_with (go_at_call 89;refine(Kzp _ _ _ _ _).mono ?_;rintro e w2 ⟨rfl,rfl⟩);go_ret;exact⟨Az8 HV.out.symm,hb1.alloc hb1.size _⟩
 ·have HC:=Lib.hid hc0
  have hc1:(check l == 0)=false:=by simp[hc0]
  have hc2:(check l != 0)=true:=by simp[hc0]
  clear hc0;go_enter Tryz.func70,Tryz.ntmps70;go_wp2_with fail;refine(Czd A c l w hr ht HL.out).mono ?_;rintro e w1 ⟨rfl,hb1⟩;go_wp2;go_ret;exact⟨Az8 (by rw[verify,if_neg HC.out]),hb1⟩
end Go.Proofs.YtdjamdbamkhblacGreatDoor
