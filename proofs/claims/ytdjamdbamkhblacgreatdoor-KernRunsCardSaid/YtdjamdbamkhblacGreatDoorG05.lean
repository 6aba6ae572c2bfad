/- The kernel as plain mathematics: what a check answers, what each act does: no program in sight. A kernel under way: its struct in a block of its own, its rows in blocks of their own; what a store makes of it. No condition. A kernel that is in order, and what is tidied: plain mathematics. Trusted code keeps to its region, and what it does hangs on its region alone: plain mathematics. What is made of plain code does what the plain code does, as far as it stays in its region: plain mathematics. What a check of code that finds nothing says: plain mathematics. Made code is trusted; what a verification that finds nothing says: plain mathematics. -/
import Derived.Test.YtdjamdbamkhblacGreatDoorG04
namespace Go.Proofs.YtdjamdbamkhblacGreatDoor
open Go.RowKit
structure Ans where
 code:Int
 n:Int
 data:ByteArray
def empS (s:ByteArray):Bool:=s.size == 0
def noS:ByteArray:=⟨#[]⟩
def ansE (e:Int):Ans:=⟨e,0,noS⟩
def ansN (n:Nat):Ans:=⟨0,n,noS⟩
def hasP (kind pl:Int) (p:Prc):Bool:=p.ends.any fun x=>(x.kind == kind) && (x.node == pl)
def hasE (ps:List Prc) (kind pl:Int):Bool:=ps.any (hasP kind pl)
def Bz6 (n:Nat) (x:Nod):Bool:=
 if x.kind=0 then empS x.name && empS x.data && (x.unit == 0)
 else if x.kind=1 then (x.unit == 0) && decide (x.data.size≤100)
 else if x.kind=2 then empS x.data && decide (0≤x.unit) && decide (x.unit<n) else false
def dupN (l:List Nod) (s:ByteArray):Bool:=l.any fun x=>x.name == s
def Azn (k:Krn) (i:Nat) (x:Nod):Bool:=
 !Bz6 k.mods.length x || (!empS x.name && (!Azs x.name || (x.kind == 0) || dupN (k.nodes.take i) x.name)) || ((x.kind != 0) && empS x.name && !hasE k.procs 1 i)
def endOk (k:Krn) (x:Opn):Bool:=
 if x.kind=0 then (x.node == 0) && (x.pos == 0)
 else if x.kind=1 then decide (0≤x.node∧x.node<8) && ((k.nodes.getD x.node.toNat default).kind != 0) && decide (0≤x.pos∧x.pos≤100)
 else if x.kind=2∨x.kind=3 then decide (0≤x.node∧x.node<6) && (x.pos == 0) else false
def Azt (k:Krn) (p:Prc):Bool:=(p.ends.length != 6) || p.ends.any fun x=> !endOk k x || (!p.live && (x.kind != 0))
def Azu (k:Krn) (i:Nat) (s:ByteArray):Bool:=decide (20<s.size) || (!empS s && !hasE k.procs 2 i)
def anyI {α:Type} (p:Nat→α→Bool):List α→Nat→Bool
 | [],_=>false
 | x::r,k=>p k x || anyI p r (k+1)
def Cz8:List Mod→List Mod→Int
 | _,[]=>0
 | pre,m::r=>if Az7 m=0 then (if pre.any (fun x=>x.name == m.name) then 7 else Cz8 (pre++ [m]) r) else Az7 m
def Azm (k:Krn):Int:=
 if 8<k.mods.length∨k.mem.length≠1024∨k.nodes.length≠8∨k.pipes.length≠6∨k.procs.length≠4 then 1
 else if Cz8 [] k.mods=0 then (if k.mem.any oddW then 2 else if anyI (Azn k) k.nodes 0 || k.procs.any (Azt k) || anyI (Azu k) k.pipes 0 then 9 else 0)
 else Cz8 [] k.mods
def Bzm (k:Krn) (s:ByteArray):Int:=idxF (fun x:Nod=>(x.kind != 0) && (x.name == s)) k.nodes 0
def Dzm (k:Krn):Int:=idxF (fun x:Nod=>x.kind == 0) k.nodes 0
def Bzc (l:List Opn):Int:=idxF (fun x:Opn=>x.kind == 0) l 0
def Dz5 (k:Krn):Int:=idxF (fun p:Prc=> !p.live) k.procs 0
def mapI {α:Type} (f:Nat→α→α):List α→Nat→List α
 | [],_=>[]
 | x::r,k=>f k x::mapI f r (k+1)
def Bzk (ps:List Prc) (i:Nat) (x:Nod):Nod:=if empS x.name && !hasE ps 1 i then default else x
def Czk (ps:List Prc) (i:Nat) (s:ByteArray):ByteArray:=if hasE ps 2 i then s else noS
def Czx (k:Krn):Krn:= { k with nodes:=mapI (Bzk k.procs) k.nodes 0,pipes:=mapI (Czk k.procs) k.pipes 0 }
def setEnd (k:Krn) (p i:Nat) (x:Opn):Krn:=
 { k with procs:=k.procs.set p { (k.procs.getD p default) with ends:=(k.procs.getD p default).ends.set i x } }
def setNod (k:Krn) (i:Nat) (x:Nod):Krn:= { k with nodes:=k.nodes.set i x }
def Bzf (k:Krn) (s:ByteArray):Krn × Ans:=
 match decE s.data.toList Az7 with
 | (none,e)=>(k,ansE e)
 | (some m,_)=>
  if k.mods.any (fun x=>x.name == m.name) then (k,ansE 7)
  else if k.mods.length=8 then (k,ansE 8)
  else ({ k with mods:=k.mods++ [m],mem:=k.mem.take (64*k.mods.length)++(m.data++List.replicate (64 - m.data.length) 0)++k.mem.drop (64*k.mods.length+64) },ansN k.mods.length)
def Cze (k:Krn) (s:ByteArray) (x:Nod):Krn × Ans:=
 if Azs s then
  if 0≤Bzm k s then (k,ansE 7)
  else if x.kind=2∧(x.unit<0∨k.mods.length≤x.unit) then (k,ansE 6)
  else if Dzm k<0 then (k,ansE 8)
  else (setNod k (Dzm k).toNat { x with name:=s },ansN (Dzm k).toNat)
 else (k,ansE 4)
def Kza (k:Krn) (s:ByteArray):Krn × Ans:=
 if empS s∨Bzm k s<0 then (k,ansE 6)
 else (Czx (setNod k (Bzm k s).toNat { (k.nodes.getD (Bzm k s).toNat default) with name:=noS }),ansN 0)
def askK (k:Krn) (u:Nat) (n:Nat):Option (Nat × Krn):=
 match runs (k.mods.getD u default).code 2000 ⟨0,[],[n,0,0,0,64*u,64*u,63,0],[],k.mem.map Int.toNat⟩ with
 | (s,en)=>if en=1 then some (s.regs.getD 0 0, { k with mem:=s.mem.map fun (x:Nat)=>(x:Int) }) else none
def Bzl:Krn→Nat→List UInt8→Nat × Krn
 | k,_,[]=>(0,k)
 | k,u,c::r=>match askK k u c.toNat with
   | none=>(0,k)
   | some (_,k')=>((Bzl k' u r).1+1,(Bzl k' u r).2)
def Izx (k:Krn) (p:Nat) (s:ByteArray):Krn × Ans:=
 if Azs s then
  if Bzm k s<0 then (k,ansE 6)
  else if Bzc (k.procs.getD p default).ends<0 then (k,ansE 8)
  else (setEnd k p (Bzc (k.procs.getD p default).ends).toNat ⟨1,Bzm k s,0⟩,ansN (Bzc (k.procs.getD p default).ends).toNat)
 else (k,ansE 4)
def Bzd (k:Krn):Int:=idxF (fun i:Nat=> !hasE k.procs 2 i && !hasE k.procs 3 i) [0,1,2,3,4,5] 0
def Fz9 (k:Krn) (p:Nat):Krn × Ans:=
 let a:=Bzc (k.procs.getD p default).ends
 let n:=Bzd k
 if a<0∨n<0 then (k,ansE 8)
 else
  let k1:=setEnd k p a.toNat ⟨2,n,0⟩
  let b:=Bzc (k1.procs.getD p default).ends
  if b<0 then (k,ansE 8) else (setEnd k1 p b.toNat ⟨3,n,0⟩,ansN a.toNat)
def Izm (k:Krn) (p:Nat):Krn × Ans:=
 if Dz5 k<0 then (k,ansE 8) else ({ k with procs:=k.procs.set (Dz5 k).toNat ⟨true,(k.procs.getD p default).ends⟩ },ansN (Dz5 k).toNat)
def Pz0 (k:Krn) (p:Nat):Krn × Ans:=(Czx { k with procs:=k.procs.set p ⟨false,List.replicate 6 default⟩ },ansN 0)
def cutS (s:ByteArray) (a b:Nat):ByteArray:=⟨((s.data.toList.take b).drop a).toArray⟩
def Bzu (k:Krn) (p i:Nat) (many:Int):Krn × Ans:=
 let x:=(k.procs.getD p default).ends.getD i default
 if many<1∨100<many then (k,ansE 2)
 else if x.kind=2 then
  let s:=k.pipes.getD x.node.toNat noS
  if empS s then (k,ansE (if hasE k.procs 3 x.node then 13 else 12))
  else
   let m:=min many.toNat s.size
   ({ k with pipes:=k.pipes.set x.node.toNat (cutS s m s.size) },⟨0,m,cutS s 0 m⟩)
 else
  let d:=k.nodes.getD x.node.toNat default
  if d.kind=2 then
   match askK k d.unit.toNat 256 with
   | none=>(k,ansE 14)
   | some (v,k')=>(k',⟨0,1,⟨#[UInt8.ofNat v]⟩⟩)
  else if d.data.size≤x.pos.toNat then (k,ansE 12)
  else
   let m:=min many.toNat (d.data.size - x.pos.toNat)
   (setEnd k p i { x with pos:=x.pos+m },⟨0,m,cutS d.data x.pos.toNat (x.pos.toNat+m)⟩)
def overS (d s:List UInt8) (pos:Nat):List UInt8:=(d++List.replicate (pos - d.length) 0).take pos++s++d.drop (pos+s.length)
def Azh (k:Krn) (p i:Nat) (s:ByteArray):Krn × Ans:=
 let x:=(k.procs.getD p default).ends.getD i default
 if empS s∨100<s.size then (k,ansE 2)
 else if x.kind=3 then
  let t:=k.pipes.getD x.node.toNat noS
  if hasE k.procs 2 x.node=false then (k,ansE 12)
  else if t.size=20 then (k,ansE 13)
  else
   let m:=min (20 - t.size) s.size
   ({ k with pipes:=k.pipes.set x.node.toNat ⟨(t.data.toList++s.data.toList.take m).toArray⟩ },ansN m)
 else
  let d:=k.nodes.getD x.node.toNat default
  if d.kind=2 then
   let r:=Bzl k d.unit.toNat s.data.toList
   if r.1=0 then (r.2,ansE 14) else (r.2,ansN r.1)
  else
   let m:=min s.size (100 - x.pos.toNat)
   if m=0 then (k,ansE 8)
   else (setEnd (setNod k x.node.toNat { d with data:=⟨(overS d.data.data.toList (s.data.toList.take m) x.pos.toNat).toArray⟩ }) p i { x with pos:=x.pos+m },ansN m)
def byK (k:Krn) (p:Nat) (a:Akt):Krn × Ans:=
 if a.kind=5 then Izx k p a.name
 else if a.kind=9 then Fz9 k p
 else if a.kind=10 then Izm k p
 else if a.kind=11 then Pz0 k p
 else
  let x:=(k.procs.getD p default).ends.getD a.n.toNat default
  if a.n<0∨6≤a.n∨x.kind=0 then (k,ansE 6)
  else if a.kind=6 then (Czx (setEnd k p a.n.toNat default),ansN 0)
  else if (a.kind=7∧x.kind=3)∨(a.kind=8∧x.kind=2) then (k,ansE 3)
  else if a.kind=7 then Bzu k p a.n.toNat a.m
  else Azh k p a.n.toNat a.data
def doK (k:Krn) (a:Akt):Krn × Ans:=
 if a.kind=1 then Bzf k a.data
 else if a.kind=2 then Cze k a.name ⟨noS,1,noS,0⟩
 else if a.kind=3 then Cze k a.name ⟨noS,2,noS,a.n⟩
 else if a.kind=4 then Kza k a.name
 else if 0≤a.p∧a.p<4∧(k.procs.getD a.p.toNat default).live=true then byK k a.p.toNat a
 else (k,ansE 6)
def doE (k:Krn) (a:Akt):Int:=if Azm k=0 then (if a.kind<1∨11<a.kind then 3 else 0) else Azm k
def newK:Krn:=⟨[],List.replicate 1024 0,List.replicate 8 default,List.replicate 6 noS,⟨true,List.replicate 6 default⟩::List.replicate 3 ⟨false,List.replicate 6 default⟩⟩
def runK:Krn→List Akt→Krn × List Ans
 | k,[]=>(k,[])
 | k,a::r=>if doE k a=0 then ((runK (doK k a).1 r).1,(doK k a).2::(runK (doK k a).1 r).2) else ((runK k r).1,ansE (doE k a)::(runK k r).2)
theorem Mz1:Azm newK=0:=by decide+kernel
set_option linter.unusedVariables false
set_option linter.unusedSimpArgs false
def kTy (t:TypeId):Bool:=t == 30 || t == 47 || t == 3 || t == 49 || t == 9 || t == 52 || t == 104 || t == 54
def Aside (w w':World):Prop:=∀ (q:Nat) (t:TypeId) (cs:Array Value),kTy t=false→Blk w q t cs→Blk w' q t cs
theorem Aside.of_below {w w':World} (h:Below w.heap.size w w'):Aside w w':=fun q t cs _ hb=>hb.below h hb.lt
theorem Aside.of_tch {t:TypeId} {w w':World} (h:Tch t w w') (hk:kTy t=true):Aside w w':=fun q t' cs h1 hb=>hb.tch h (fun e=>by subst e;rw[hk] at h1;cases h1)
structure Fr (B:Nat) (w w':World):Prop where
 low':Below B w w'
 side:Aside w w'
 shape:∀ (q:Nat) (cs:Array Value),Blk w q 30 cs→∃ cs',Blk w' q 30 cs'∧cs'.size=cs.size
theorem Fr.refl (B:Nat) (w:World):Fr B w w:=⟨Below.refl B w,fun _ _ _ _ h=>h,fun _ cs h=>⟨cs,h,rfl⟩⟩
theorem Fr.trans {B:Nat} {w w' w'':World} (h:Fr B w w') (h':Fr B w' w''):Fr B w w'':=⟨h.low'.trans h'.low',fun q t cs hk hb=>h'.side q t cs hk (h.side q t cs hk hb),fun q cs hb=>by
 obtain⟨c1,h1,e1⟩:=h.shape q cs hb;obtain⟨c2,h2,e2⟩:=h'.shape q c1 h1;exact⟨c2,h2,e2.trans e1⟩⟩
theorem Fr.low {B:Nat} {w w':World} (h:Below w.heap.size w w') (hB:B≤w.heap.size):Fr B w w':=⟨h.mono hB, .of_below h,fun _ cs hb=>⟨cs,hb.below h hb.lt,rfl⟩⟩
theorem Fr.drewN {B:Nat} {w w':World} (h:Fr B w w') (n:Nat):Fr B w (w'.drewN n):=⟨Below.drewN' h.low' n,fun q t cs hk hb=>(h.side q t cs hk hb).drewN n,fun q cs hb=>by
 obtain⟨c1,h1,e1⟩:=h.shape q cs hb;exact⟨c1,h1.drewN n,e1⟩⟩
theorem Fr.blk {B:Nat} {w w':World} {q:Nat} {t:TypeId} {cs:Array Value} (h:Fr B w w') (hb:Blk w q t cs) (hk:kTy t=false):Blk w' q t cs:=h.side q t cs hk hb
theorem Tch.trans {t:TypeId} {w w' w'':World} (h:Tch t w w') (h':Tch t w' w''):Tch t w w'':=
 ⟨h'.os.trans h.os,h'.tape.trans h.tape,h'.output.trans h.output,Nat.le_trans h.size h'.size,fun q hq hne=>by
   have e:=h.block q hq hne;exact(h'.block q (Nat.lt_of_lt_of_le hq h.size) (by rw[e];exact hne)).trans e⟩
theorem Fr.tch {B:Nat} {t:TypeId} {w w':World} (hb:Below B w w') (ht:Tch t w w') (hk:kTy t=true) (hne:30≠t:=by decide):Fr B w w':=⟨hb, .of_tch ht hk,fun _ cs h=>⟨cs,h.tch ht hne,rfl⟩⟩
theorem Fr.kset {B g:Nat} {w:World} {cs:Array Value} (hB:B≤g) (h:Blk w g 30 cs) (i:Nat) (u:Value):Fr B w (w.setCell ⟨g,i,none⟩ u):=
 ⟨(Below.refl B w).setCell (p:=⟨g,i,none⟩) hB u, .of_tch (Tch.of_set (p:=⟨g,i,none⟩) h u) (by decide),fun q c1 h1=>by
   by_cases e:q=g
   ·subst e
    exact⟨_,h1.set_ i u,by simp⟩
   ·exact⟨c1,h1.far (p:=⟨g,i,none⟩) e u,rfl⟩⟩
theorem Fr.setNew {B:Nat} {w W:World} {q o:Nat} (h:Fr B w W) (hq:w.heap.size≤q) (hB:B≤q) (u:Value):Fr B w (W.setCell ⟨q,o,none⟩ u):=
 ⟨h.low'.setCell (p:=⟨q,o,none⟩) hB u,fun q' t cs hk hb=>(h.side q' t cs hk hb).far (p:=⟨q,o,none⟩) (by have:=hb.lt;show q'≠q;omega) u,fun q' cs hb=>by
   obtain⟨c1,h1,e1⟩:=h.shape q' cs hb;exact⟨c1,h1.far (p:=⟨q,o,none⟩) (by have:=hb.lt;show q'≠q;omega) u,e1⟩⟩
theorem Fr.ans3 {B:Nat} {w W:World} {q:Nat} (h:Fr B w W) (hq:w.heap.size≤q) (hB:B≤w.heap.size) (u0 u1 u2:Value):Fr B w (((W.setCell ⟨q,0,none⟩ u0).setCell ⟨q,1,none⟩ u1).setCell ⟨q,2,none⟩ u2):=
 ((h.setNew hq (by omega) u0).setNew hq (by omega) u1).setNew hq (by omega) u2
theorem Fr.new {B:Nat} {w W:World} (h:Fr B w W) (hB:B≤W.heap.size) (o:Obj):Fr B w (W.alloc o):=⟨h.low'.alloc hB o,fun q t cs hk hb=>(h.side q t cs hk hb).alloc o,fun q cs hb=>by
 obtain⟨c1,h1,e1⟩:=h.shape q cs hb;exact⟨c1,h1.alloc o,e1⟩⟩
structure KS (B:Nat) (w:World) (g:Nat) (a:KA) (k:Krn) (ms:List (Value × Value)) (es:List Value):Prop where
 lo:B≤g
 blk:Blk w g 30 (a.cells k)
 cp:Copied w B (.slice a.a0 k.mods.length a.c0) (.slice a.a1 k.mem.length a.c1) (.slice a.a2 k.nodes.length a.c2) (.slice a.a3 k.pipes.length a.c3) (.slice a.a4 k.procs.length a.c4) k ms es
 fits:k.fits
theorem KA.inj {a a':KA} {k:Krn} (h:a.cells k=a'.cells k):a=a':=by
 unfold KA.cells at h;cases a;cases a'
 simp at h;obtain⟨⟨h1,h2⟩,⟨h3,h4⟩,⟨h5,h6⟩,⟨h7,h8⟩,h9,h10⟩:=h;subst h1 h2 h3 h4 h5 h6 h7 h8 h9 h10;rfl
theorem Fz8 {w:World} {base:Nat} {e:TypeId} {size n m c:Nat} {A:Option Addr} {xs:List Value} (h:w.ownsRow base e size (.slice A m c) n xs):m=n∧n≤c:=by
 rcases h.2 with⟨h1,h2⟩|⟨g,cap,cur,hv,_,_,hnc,_⟩
 ·cases h1;exact⟨h2.symm,by omega⟩
 ·cases hv;exact⟨rfl,hnc⟩
theorem Azf {w:World} {base:Nat} {e:TypeId} {size n c:Nat} {A:Option Addr} {xs:List Value} (h:w.ownsRow base e size (.slice A n c) n xs) (hn:0<n):∃ g,A=some ⟨g,0,none⟩∧base≤g∧g<w.heap.size:=by
 obtain⟨g,cap,hv,hb,hlt⟩:=h.form hn;cases hv
 exact⟨g,rfl,hb,hlt⟩
section
variable {B:Nat} {w w':World} {g:Nat} {a:KA} {k:Krn} {ms:List (Value × Value)} {es:List Value}
theorem KS.krn (h:KS B w g a k ms es):KrnAt w w.heap.size a k:=by
 obtain⟨a',e,hk⟩:=h.cp.krn h.fits;have:a=a':=KA.inj (k:=k) e;subst this;exact hk
theorem KS.below (h:KS B w g a k ms es) (hb:Below w.heap.size w w'):KS B w' g a k ms es:=⟨h.lo,h.blk.below hb h.blk.lt,h.cp.below hb,h.fits⟩
theorem KS.caps (h:KS B w g a k ms es):a.caps k:=⟨(Fz8 h.cp.mods).2,(Fz8 h.cp.nodes).2⟩
theorem KS.lt (h:KS B w g a k ms es):B<w.heap.size:=Nat.lt_of_le_of_lt h.lo h.blk.lt
theorem KS.c5 (h:KS B w g a k ms es):w.cell? ⟨g,0,none⟩=some (.slice a.a0 k.mods.length a.c0)∧w.cell? ⟨g,1,none⟩=some (.slice a.a1 k.mem.length a.c1)∧w.cell? ⟨g,2,none⟩=some (.slice a.a2 k.nodes.length a.c2)∧w.cell? ⟨g,3,none⟩=some (.slice a.a3 k.pipes.length a.c3)∧w.cell? ⟨g,4,none⟩=some (.slice a.a4 k.procs.length a.c4):=
 ⟨h.blk.cell 0,h.blk.cell 1,h.blk.cell 2,h.blk.cell 3,h.blk.cell 4⟩
end
theorem Czt {B:Nat} {w:World} {b:Nat} (h:B≤b) (o:Nat) (u:Value):Below B w (w.setCell ⟨b,o,none⟩ u):=(Below.refl B w).setCell (p:=⟨b,o,none⟩) h u
theorem Czc {w:World} {base:Nat} {e:TypeId} {size n c b:Nat} {xs:List Value} (h:w.ownsRow base e size (.slice (some ⟨b,0,none⟩) n c) n xs) (j:Nat) (u:Value):
  (w.setCell ⟨b,j,none⟩ u).ownsRow base e size (.slice (some ⟨b,0,none⟩) n c) n (xs.set j u)∧Tch e w (w.setCell ⟨b,j,none⟩ u):=by
 obtain⟨h1,h2⟩:=h.stored j u;exact⟨h1,Tch.of_grown h h2⟩
theorem Hzo {α:Type} (f:α→List Value) (s:Nat) (hf:∀ x,(f x).length=s):∀ (l:List α) (i:Nat) (h:i<l.length) (j:Nat) (hj:j<s) (u:Value) (y:α),f y=(f l[i]).set j u→(l.set i y).flatMap f=(l.flatMap f).set (i*s+j) u
 | [],i,h,_,_,_,_,_=>by cases h
 | x::r,0,_,j,hj,u,y,hy=>by
   have hx:f x=f (x::r)[0]:=rfl;rw[List.set_cons_zero,List.flatMap_cons,List.flatMap_cons,hy,Nat.zero_mul,Nat.zero_add,List.set_append_left _ _ (by rw[hf];exact hj)];rfl
 | x::r,i+1,h,j,hj,u,y,hy=>by
   rw[List.set_cons_succ,List.flatMap_cons,List.flatMap_cons,Hzo f s hf r i (by simpa using h) j hj u y hy,List.set_append_right _ _ (by rw[hf,Nat.add_mul];omega),hf]
   congr 2
   rw[Nat.add_mul];omega
theorem Dzy {k k':Krn} (h:k.fits) (hm:k'.mods=k.mods) (hp:∀ p∈k'.procs,p.ends.length*24≤140737488351232) (h1:k'.mem.length=k.mem.length) (h2:k'.nodes.length=k.nodes.length) (h3:k'.pipes.length=k.pipes.length) (h4:k'.procs.length=k.procs.length):k'.fits:=
 ⟨by rw[hm];exact h.m,hp,by rw[hm];exact h.l0,by rw[h1];exact h.l1,by rw[h2];exact h.l2,by rw[h3];exact h.l3,by rw[h4];exact h.l4⟩
section
variable {B:Nat} {w w':World} {g b i:Nat} {a:KA} {k:Krn} {ms:List (Value × Value)} {es:List Value}
theorem KS.nodeCell (h:KS B w g a k ms es) (ha:a.a2=some ⟨b,0,none⟩) (hi:i<k.nodes.length) (j:Nat) (hj:j<4) (u:Value) (y:Nod)
  (hy:[Value.string y.name, .int .i64 y.kind, .string y.data, .int .i64 y.unit]=[Value.string k.nodes[i].name, .int .i64 k.nodes[i].kind, .string k.nodes[i].data, .int .i64 k.nodes[i].unit].set j u):
  KS B (w.setCell ⟨b,i*4+j,none⟩ u) g a (setNod k i y) ms es∧Fr B w (w.setCell ⟨b,i*4+j,none⟩ u):=by
 have hn:=h.cp.nodes;rw[ha] at hn;have hbb:B≤b:=(hn.lt b rfl).1;obtain⟨h1,ht⟩:=Czc hn (i*4+j) u;have hl:(setNod k i y).nodes.length=k.nodes.length:=List.length_set ..;have hc:Azk (k.nodes.set i y)=(Azk k.nodes).set (i*4+j) u:=Hzo _ 4 (fun _=>rfl) _ _ hi j hj u y hy;rw[←hc, ←ha] at h1;refine⟨⟨h.lo,?_,?_,?_⟩, .tch (Czt hbb _ _) ht (by decide)⟩
 ·have:=h.blk.tch ht (by decide)
  unfold KA.cells at this ⊢;rw[hl];exact this
 ·rw[hl]
  exact⟨Az4 h.cp.mods ht (by decide),h.cp.rows.tch ht (by decide) (by decide),Az4 h.cp.mem ht (by decide),by rw[hl];exact h1,Az4 h.cp.pipes ht (by decide),Az4 h.cp.procs ht (by decide),h.cp.ends.tch ht (by decide),h.cp.apart,h.cp.each⟩
 ·exact Dzy h.fits rfl h.fits.p rfl hl rfl rfl
theorem KS.pipeCell (h:KS B w g a k ms es) (ha:a.a3=some ⟨b,0,none⟩) (s:ByteArray):
  KS B (w.setCell ⟨b,i,none⟩ (.string s)) g a { k with pipes:=k.pipes.set i s } ms es∧Fr B w (w.setCell ⟨b,i,none⟩ (.string s)):=by
 have hn:=h.cp.pipes;rw[ha] at hn;have hbb:B≤b:=(hn.lt b rfl).1;obtain⟨h1,ht⟩:=Czc hn i (.string s);have hl:(k.pipes.set i s).length=k.pipes.length:=List.length_set ..;have hc:strCells (k.pipes.set i s)=(strCells k.pipes).set i (.string s):=by unfold strCells;rw[List.map_set]
 rw[←hc, ←ha] at h1;refine⟨⟨h.lo,?_,?_,?_⟩, .tch (Czt hbb _ _) ht (by decide)⟩
 ·have:=h.blk.tch ht (by decide)
  unfold KA.cells at this ⊢;rw[hl];exact this
 ·simp only
  rw[hl];exact⟨Az4 h.cp.mods ht (by decide),h.cp.rows.tch ht (by decide) (by decide),Az4 h.cp.mem ht (by decide),Az4 h.cp.nodes ht (by decide),by rw[hl];exact h1,Az4 h.cp.procs ht (by decide),h.cp.ends.tch ht (by decide),h.cp.apart,h.cp.each⟩
 ·exact Dzy h.fits rfl h.fits.p rfl rfl hl rfl
end
theorem Ezd {α:Type} (p:Nat→α→Bool):∀ (l:List α) (k:Nat),anyI p l k=false↔∀ i (h:i<l.length),p (k+i) l[i]=false
 | [],k=>by simp[anyI]
 | x::r,k=>by
   rw[anyI,Bool.or_eq_false_iff,Ezd p r (k+1)];constructor
   ·rintro⟨h1,h2⟩ i hi
    cases i with
    | zero=>exact h1
    | succ i=>have:=h2 i (by simpa using hi);rw[show k+1+i=k+(i+1) by omega] at this;exact this
   ·intro h
    refine⟨h 0 (by simp),fun i hi=>?_⟩;have:=h (i+1) (by simpa using hi);rw[show k+1+i=k+(i+1) by omega];exact this
theorem Bzh {α:Type} (f:Nat→α→α):∀ (l:List α) (k:Nat),(mapI f l k).length=l.length
 | [],_=>rfl
 | x::r,k=>by simp[mapI,Bzh f r]
theorem Kz0 {α:Type} (f:Nat→α→α):∀ (l:List α) (k i:Nat),(mapI f l k)[i]? =l[i]?.map (f (k+i))
 | [],_,_=>by simp[mapI]
 | x::r,k,0=>by simp[mapI]
 | x::r,k,i+1=>by
   rw[mapI,List.getElem?_cons_succ,Kz0 f r,List.getElem?_cons_succ,show k+1+i=k+(i+1) by omega]
theorem Lz4 {α:Type} (f:Nat→α→α) (l:List α) (i:Nat) (h:i<(mapI f l 0).length):(mapI f l 0)[i]=f i (l[i]'(by rw[Bzh] at h;exact h)):=by
 have:=Kz0 f l 0 i;rw[List.getElem?_eq_getElem h,List.getElem?_eq_getElem (by rw[Bzh] at h;exact h)] at this
 simpa using this
theorem Kzx {α:Type} {p:α→Bool}:∀ {l:List α} {k:Nat},idxF p l k<0→l.any p=false
 | [],_,_=>rfl
 | x::r,k,h=>by
   rw[idxF] at h;rw[List.any_cons];cases hp:p x with
   | true=>rw[hp] at h;simp at h;omega
   | false=>rw[hp] at h;simpa using Kzx h
theorem Dz0 {α:Type} {p:α→Bool}:∀ {l:List α} {k:Nat},0≤idxF p l k→∃ i,∃ h:i<l.length,idxF p l k=((k+i:Nat):Int)∧p l[i]=true
 | [],_,h=>by simp[idxF] at h
 | x::r,k,h=>by
   rw[idxF] at h ⊢;cases hp:p x with
   | true=>exact⟨0,by simp,by simp,hp⟩
   | false=>
     rw[hp] at h;obtain⟨i,hi,he,hpi⟩:=Dz0 (p:=p) (l:=r) (k:=k+1) (by simpa using h);exact⟨i+1,by simpa using hi,by simp only[Bool.false_eq_true,if_false];rw[he];congr 1;omega,by simpa using hpi⟩
theorem Kzl {a b:ByteArray}:(a == b)=true↔a=b:=by
 constructor
 ·intro h
  cases a;cases b
  congr
  exact eq_of_beq (α:=Array UInt8) h
 ·rintro rfl
  cases a
  exact beq_self_eq_true (α:=Array UInt8) _
theorem Fzj {a b:ByteArray}:(a == b)=false↔a≠b:=by
 rw[←Bool.not_eq_true,Kzl]
theorem Czj {s:ByteArray}:empS s=true↔s=noS:=by
 obtain⟨⟨l⟩⟩:=s;cases l with
 | nil=>simp[empS,noS,ByteArray.size]
 | cons c r=>simp[empS,noS,ByteArray.size]
theorem Gzb:empS noS=true:=rfl
theorem Gzk {s:ByteArray} (h:Azs s=true):empS s=false:=by
 unfold Azs at h;simp at h;unfold empS;rw[beq_eq_false_iff_ne];omega
structure KOk (k:Krn):Prop where
 l0:k.mods.length≤8
 l1:k.mem.length=1024
 l2:k.nodes.length=8
 l3:k.pipes.length=6
 l4:k.procs.length=4
 mods:∀ m∈k.mods,Az7 m=0
 modd:k.mods.Pairwise fun a b=>(a.name == b.name)=false
 mem:k.mem.any oddW=false
 nodes:∀ i (h:i<k.nodes.length),Azn k i k.nodes[i]=false
 procs:k.procs.any (Azt k)=false
 pipes:∀ i (h:i<k.pipes.length),Azu k i k.pipes[i]=false
theorem Gzj:∀ (r pre:List Mod),Cz8 pre r=0↔(∀ m∈r,Az7 m=0)∧(∀ m∈r,pre.any (fun x=>x.name == m.name)=false)∧r.Pairwise fun a b=>(a.name == b.name)=false
 | [],pre=>by simp[Cz8]
 | m::r,pre=>by
   rw[Cz8];by_cases h1:Az7 m=0
   ·rw[if_pos h1]
    by_cases h2:pre.any (fun x=>x.name == m.name)=true
    ·rw[if_pos h2]
     constructor
     ·intro h;cases h
     ·rintro⟨_,h,_⟩
      have:=h m (by simp);rw[h2] at this;cases this
    ·rw[if_neg h2,Gzj r (pre++ [m])]
     rw[Bool.not_eq_true] at h2;constructor
     ·rintro⟨a,b,c⟩
      refine⟨fun x hx=>?_,fun x hx=>?_,List.pairwise_cons.2 ⟨fun x hx=>?_,c⟩⟩
      ·rcases List.mem_cons.1 hx with rfl|hx
       ·exact h1
       ·exact a x hx
      ·rcases List.mem_cons.1 hx with rfl|hx
       ·exact h2
       ·have:=b x hx;rw[List.any_append,Bool.or_eq_false_iff] at this;exact this.1
      ·have:=b x hx;rw[List.any_append,Bool.or_eq_false_iff] at this;simpa using this.2
     ·rintro⟨a,b,c⟩
      obtain⟨c1,c2⟩:=List.pairwise_cons.1 c;refine⟨fun x hx=>a x (by simp[hx]),fun x hx=>?_,c2⟩;rw[List.any_append,Bool.or_eq_false_iff];exact⟨b x (by simp[hx]),by simpa using c1 x hx⟩
   ·rw[if_neg h1]
    constructor
    ·intro h;exact absurd h h1
    ·rintro⟨a,_⟩;exact absurd (a m (by simp)) h1
theorem Dzt (k:Krn):Azm k=0↔KOk k:=by
 unfold Azm;constructor
 ·intro h
  by_cases h0:8<k.mods.length∨k.mem.length≠1024∨k.nodes.length≠8∨k.pipes.length≠6∨k.procs.length≠4
  ·rw[if_pos h0] at h;cases h
  rw[if_neg h0] at h;by_cases h1:Cz8 [] k.mods=0
  ·rw[if_pos h1] at h
   obtain⟨m1,_,m3⟩:=(Gzj _ _).1 h1;cases h2:k.mem.any oddW with
   | true=>rw[h2] at h;simp at h
   | false=>
     rw[h2] at h;cases h3:anyI (Azn k) k.nodes 0 || k.procs.any (Azt k) || anyI (Azu k) k.pipes 0 with
     | true=>rw[h3] at h;simp at h
     | false=>
       rw[Bool.or_eq_false_iff,Bool.or_eq_false_iff] at h3;obtain⟨⟨a,b⟩,c⟩:=h3;have a':=(Ezd _ _ _).1 a;have c':=(Ezd _ _ _).1 c;simp only[Nat.zero_add] at a' c';exact⟨by omega,by omega,by omega,by omega,by omega,m1,m3,h2,a',b,c'⟩
  ·rw[if_neg h1] at h;exact absurd h h1
 ·intro h
  have h0:¬ (8<k.mods.length∨k.mem.length≠1024∨k.nodes.length≠8∨k.pipes.length≠6∨k.procs.length≠4):=by
   have:=h.l0;have:=h.l1;have:=h.l2;have:=h.l3;have:=h.l4;omega
  have a':anyI (Azn k) k.nodes 0=false:=(Ezd _ _ _).2 (by simpa using h.nodes);have c':anyI (Azu k) k.pipes 0=false:=(Ezd _ _ _).2 (by simpa using h.pipes);rw[if_neg h0,if_pos ((Gzj _ _).2 ⟨h.mods,by simp,h.modd⟩),h.mem,a',c',h.procs];simp
structure KPre (k:Krn):Prop where
 l0:k.mods.length≤8
 l1:k.mem.length=1024
 l2:k.nodes.length=8
 l3:k.pipes.length=6
 l4:k.procs.length=4
 mods:∀ m∈k.mods,Az7 m=0
 modd:k.mods.Pairwise fun a b=>(a.name == b.name)=false
 mem:k.mem.any oddW=false
 nodes:∀ i (h:i<k.nodes.length),Bz6 k.mods.length k.nodes[i]=true∧(k.nodes[i].name≠noS→Azs k.nodes[i].name=true∧k.nodes[i].kind≠0∧∀ j (hj:j<k.nodes.length),j<i→k.nodes[j].name≠k.nodes[i].name)
 procs:k.procs.any (Azt k)=false
 pipes:∀ i (h:i<k.pipes.length),k.pipes[i].size≤20
theorem Nz4 {l:List Nod} {i:Nat} {s:ByteArray} (hi:i≤l.length):dupN (l.take i) s=false↔∀ j (hj:j<l.length),j<i→l[j].name≠s:=by
 unfold dupN;rw[List.any_eq_false];constructor
 ·intro h j hj hji
  have:=h l[j] (List.mem_iff_getElem.2 ⟨j,by rw[List.length_take];omega,by simp⟩);rw[Bool.not_eq_true,Fzj] at this;exact this
 ·intro h x hx
  obtain⟨j,hj,rfl⟩:=List.mem_iff_getElem.1 hx;rw[List.length_take] at hj;rw[List.getElem_take,Bool.not_eq_true,Fzj];exact h j (by omega) (by omega)
theorem Bz9 {k:Krn} {i:Nat} (hi:i<k.nodes.length):Azn k i k.nodes[i]=false↔
  (Bz6 k.mods.length k.nodes[i]=true∧(k.nodes[i].name≠noS→Azs k.nodes[i].name=true∧k.nodes[i].kind≠0∧∀ j (hj:j<k.nodes.length),j<i→k.nodes[j].name≠k.nodes[i].name))∧
  (k.nodes[i].kind≠0→k.nodes[i].name=noS→hasE k.procs 1 i=true):=by
 unfold Azn;rw[Bool.or_eq_false_iff,Bool.or_eq_false_iff,Bool.not_eq_false'];refine and_congr (and_congr Iff.rfl ?_) ?_
 ·by_cases he:k.nodes[i].name=noS
  ·simp[he,Gzb]
  ·have:empS k.nodes[i].name=false:=by rw[←Bool.not_eq_true,Czj];exact he
   rw[this, ←Nz4 (l:=k.nodes) (s:=k.nodes[i].name) (by omega)];simp[he,and_assoc]
 ·by_cases he:k.nodes[i].name=noS
  ·simp[he,Gzb]
  ·have:empS k.nodes[i].name=false:=by rw[←Bool.not_eq_true,Czj];exact he
   simp[this,he]
theorem Cza {k:Krn} {i:Nat} {s:ByteArray}:Azu k i s=false↔s.size≤20∧(s≠noS→hasE k.procs 2 i=true):=by
 unfold Azu;rw[Bool.or_eq_false_iff];refine and_congr (by simp) ?_;by_cases he:s=noS
 ·simp[he,Gzb]
 ·have:empS s=false:=by rw[←Bool.not_eq_true,Czj];exact he
  simp[this,he]
theorem KOk.pre {k:Krn} (h:KOk k):KPre k:=
 ⟨h.l0,h.l1,h.l2,h.l3,h.l4,h.mods,h.modd,h.mem,fun i hi=>((Bz9 hi).1 (h.nodes i hi)).1,h.procs,fun i hi=>(Cza.1 (h.pipes i hi)).1⟩
theorem KPre.ok {k:Krn} (h:KPre k) (h1:∀ i (hi:i<k.nodes.length),k.nodes[i].kind≠0→k.nodes[i].name=noS→hasE k.procs 1 i=true) (h2:∀ i (hi:i<k.pipes.length),k.pipes[i]≠noS→hasE k.procs 2 i=true):KOk k:=
 ⟨h.l0,h.l1,h.l2,h.l3,h.l4,h.mods,h.modd,h.mem,fun i hi=>(Bz9 hi).2 ⟨h.nodes i hi,h1 i hi⟩,h.procs,fun i hi=>Cza.2 ⟨h.pipes i hi,h2 i hi⟩⟩
theorem KOk.open_ {k:Krn} (h:KOk k):(∀ i (hi:i<k.nodes.length),k.nodes[i].kind≠0→k.nodes[i].name=noS→hasE k.procs 1 i=true)∧(∀ i (hi:i<k.pipes.length),k.pipes[i]≠noS→hasE k.procs 2 i=true):=
 ⟨fun i hi=>((Bz9 hi).1 (h.nodes i hi)).2,fun i hi=>(Cza.1 (h.pipes i hi)).2⟩
theorem Bzp {k:Krn} {p:Prc}:Azt k p=false↔p.ends.length=6∧∀ x∈p.ends,endOk k x=true∧(p.live=false→x.kind=0):=by
 unfold Azt;rw[Bool.or_eq_false_iff,List.any_eq_false];refine and_congr (by simp) (forall_congr' fun x=>imp_congr_right fun _=>?_)
 rw[Bool.not_eq_true,Bool.or_eq_false_iff];cases p.live<;>simp
theorem Bzx {k:Krn}:k.procs.any (Azt k)=false↔∀ i (h:i<k.procs.length),Azt k k.procs[i]=false:=by
 rw[List.any_eq_false];constructor
 ·intro h i hi
  have:=h _ (List.getElem_mem hi)
  simpa using this
 ·intro h x hx
  obtain⟨i,hi,rfl⟩:=List.mem_iff_getElem.1 hx;rw[h i hi];simp
theorem Mz3 {n:Nat} {x:Nod} (h:Bz6 n x=true) (hk:x.kind=0):x=default:=by
 unfold Bz6 at h;rw[if_pos hk] at h;simp only[Bool.and_eq_true,Czj,beq_iff_eq] at h;obtain⟨⟨a,b⟩,c⟩:=h;obtain⟨n,k,d,u⟩:=x;simp only at a b c hk;subst a;subst b;subst c;subst hk;rfl
theorem Kzu {ps:List Prc} {kd pl:Int}:hasE ps kd pl=true↔∃ p∈ps,∃ x∈p.ends,x.kind=kd∧x.node=pl:=by
 simp[hasE,hasP]
theorem Kz9 {k:Krn} (h:KPre k):KOk (Czx k):=by
 have hlen:(Czx k).nodes.length=k.nodes.length:=Bzh _ _ _;have hlp:(Czx k).pipes.length=k.pipes.length:=Bzh _ _ _;have hnod:∀ i (hi:i<(Czx k).nodes.length),(Czx k).nodes[i]=Bzk k.procs i (k.nodes[i]'(by rw[hlen] at hi;exact hi)):=fun i hi=>Lz4 _ _ _ hi
 have hpip:∀ i (hi:i<(Czx k).pipes.length),(Czx k).pipes[i]=Czk k.procs i (k.pipes[i]'(by rw[hlp] at hi;exact hi)):=fun i hi=>Lz4 _ _ _ hi
 have hname:∀ (i:Nat) (x:Nod),(Bzk k.procs i x).name=noS∨(Bzk k.procs i x)=x:=fun i x=>by
  unfold Bzk;split
  ·left;rfl
  ·right;rfl
 refine KPre.ok ⟨h.l0,h.l1,hlen.trans h.l2,hlp.trans h.l3,h.l4,h.mods,h.modd,h.mem,fun i hi=>?_,?_,fun i hi=>?_⟩ (fun i hi hk hn=>?_) (fun i hi hn=>?_)
 ·have hi':i<k.nodes.length:=by rw[hlen] at hi;exact hi
  obtain⟨a,b⟩:=h.nodes i hi';rw[hnod i hi];refine⟨?_,fun hne=>?_⟩
  ·show Bz6 k.mods.length _=true
   unfold Bzk;split
   ·rfl
   ·exact a
  ·rcases hname i k.nodes[i] with e|e
   ·exact absurd e hne
   ·rw[e] at hne ⊢
    obtain⟨b1,b2,b3⟩:=b hne;refine⟨b1,b2,fun j hj hji=>?_⟩;rw[hnod j hj];rcases hname j (k.nodes[j]'(by rw[hlen] at hj;exact hj)) with e'|e'
    ·rw[e'];exact fun e''=>hne e''.symm
    ·rw[e'];exact b3 j (by rw[hlen] at hj;exact hj) hji
 ·rw[Bzx]
  intro i hi;have hp:=(Bzx.1 h.procs) i hi;rw[Bzp] at hp ⊢;refine⟨hp.1,fun x hx=>⟨?_,(hp.2 x hx).2⟩⟩;have hx1:=(hp.2 x hx).1;unfold endOk at hx1 ⊢;by_cases k0:x.kind=0
  ·rw[if_pos k0] at hx1 ⊢;exact hx1
  rw[if_neg k0] at hx1 ⊢;by_cases k1:x.kind=1
  ·rw[if_pos k1] at hx1 ⊢
   simp only[Bool.and_eq_true,decide_eq_true_eq,bne_iff_ne] at hx1 ⊢;obtain⟨⟨⟨a1,a2⟩,a3⟩,a4⟩:=hx1;refine⟨⟨⟨a1,a2⟩,?_⟩,a4⟩;have hj:x.node.toNat<(Czx k).nodes.length:=by rw[hlen,h.l2];omega
   have hj':x.node.toNat<k.nodes.length:=by rw[h.l2];omega
   rw[List.getD_eq_getElem?_getD,List.getElem?_eq_getElem hj,Option.getD_some,hnod _ hj];rw[List.getD_eq_getElem?_getD,List.getElem?_eq_getElem hj',Option.getD_some] at a3;have hh:hasE k.procs 1 (x.node.toNat:Int)=true:=Kzu.2 ⟨_,List.getElem_mem hi,x,hx,k1,by omega⟩;unfold Bzk;rw[hh]
   simpa using a3
  rw[if_neg k1] at hx1 ⊢;exact hx1
 ·rw[hpip i hi]
  unfold Czk;split
  ·exact h.pipes i _
  ·show (0:Nat)≤20;omega
 ·rw[hnod i hi] at hk hn
  unfold Bzk at hk hn;split at hk
  ·exact absurd rfl hk
  ·rename_i hc
   rw[if_neg hc] at hn;rw[hn] at hc;have:hasE k.procs 1 i=true:=by simpa [Gzb] using hc
   exact this
 ·rw[hpip i hi] at hn
  unfold Czk at hn;split at hn
  ·assumption
  ·exact absurd rfl hn
def ldB (i:Ins):Bool:=i.op == 8 || i.op == 9
def Szd (l:List Ins) (k:Nat):Nat:=k+2*(l.take k).countP ldB
structure Sim (l:List Ins) (s t:Mc):Prop where
 pos:s.pos<l.length
 tpos:t.pos=Szd l s.pos
 back:∀ p∈s.back,p<l.length
 tback:t.back=s.back.map (Szd l)
 s8:s.regs.length=8
 t8:t.regs.length=8
 regs:∀ k,k<8→k≠4→k≠5→k≠6→s.regs.getD k 0=t.regs.getD k 0
 r5:t.regs.getD 5 0=0
 r6:t.regs.getD 6 0=63
 told:s.told=t.told
 mem:s.mem=t.mem
 small:s.mem.length≤64
structure Out (s t:Mc):Prop where
 s8:s.regs.length=8
 t8:t.regs.length=8
 regs:∀ k,k<4→s.regs.getD k 0=t.regs.getD k 0
 told:s.told=t.told
 mem:s.mem=t.mem
theorem Sim.rg {l:List Ins} {s t:Mc} (h:Sim l s t) {z:Int} (h0:0≤z) (h7:z≤7) (ho:¬ (4≤z∧z≤6)):rg t z=rg s z:=by
 unfold YtdjamdbamkhblacGreatDoor.rg;exact(h.regs z.toNat (by omega) (by omega) (by omega) (by omega)).symm
theorem Sim.out {l:List Ins} {s t:Mc} (h:Sim l s t):Out s t:=⟨h.s8,h.t8,fun k hk=>h.regs k (by omega) (by omega) (by omega) (by omega),h.told,h.mem⟩
theorem Tzb (op:Int):gA op≤7:=by unfold gA;split<;>omega
theorem Tzc (op:Int):gB op≤7:=by unfold gB;split<;>omega
theorem Tzd   (op : Int) : gC op ≤ 65535 := by unfold gC; repeat' split
                                               all_goals omega
theorem Nzq (i:Ins):okI i=true↔(0≤i.a∧i.a≤gA i.op)∧(0≤i.b∧i.b≤gB i.op)∧(0≤i.c∧i.c≤gC i.op):=by
 simp[okI,and_assoc]
theorem Pz6 {i:Ins} (h1:1≤i.op) (h2:i.op≤15) (h:okI i=true):InsOk i:=by
 obtain⟨⟨a1,a2⟩,⟨b1,b2⟩,c1,c2⟩:=(Nzq i).1 h;have:=Tzb i.op;have:=Tzc i.op;have:=Tzd i.op;refine⟨h1,h2,a1,by omega,b1,by omega,c1,by omega,fun h3 h4=>?_⟩;unfold gC at c2;rw[if_neg (by omega),if_pos ⟨h3,h4⟩] at c2;exact c2
theorem Fzk (l:List Ins):chk l=0↔∀ i∈l,(1≤i.op∧i.op≤15)∧okI i=true:=by
 induction l with
 | nil=>simp[chk]
 | cons i r ih=>
   rw[chk];by_cases h1:i.op<1∨15<i.op
   ·rw[if_pos h1]
    refine⟨fun h=>by omega,fun h=>?_⟩;have:=(h i (List.mem_cons_self ..)).1;omega
   ·rw[if_neg h1]
    by_cases h2:okI i=true
    ·rw[if_pos h2,ih]
     exact⟨fun h j hj=>by
      rcases List.mem_cons.1 hj with rfl|hj
      ·exact⟨by omega,h2⟩
      ·exact h j hj,fun h j hj=>h j (List.mem_cons_of_mem _ hj)⟩
    ·rw[if_neg h2]
     exact⟨fun h=>by omega,fun h=>absurd (h i (List.mem_cons_self ..)).2 h2⟩
theorem Bzn (l:List Ins):check l=0↔l.length≤200∧chk l=0:=by
 unfold check;split
 ·exact⟨fun h=>by omega,fun h=>by omega⟩
 ·exact⟨fun h=>⟨by omega,h⟩,fun h=>h.2⟩
theorem Az5 {l:List Ins} (h:check l=0):Ez7 l:=fun i hi=>by
 have:=(Fzk l).1 ((Bzn l).1 h).2 i hi;exact Pz6 this.1.1 this.1.2 this.2
theorem Czw (l:List Ins):verify l=0↔check l=0∧Fzo l=true∧vrf l.length l=0:=by
 unfold verify;split
 ·rename_i h
  split
  ·rename_i h2
   exact⟨fun e=>⟨h,h2,e⟩,fun e=>e.2.2⟩
  ·rename_i h2
   exact⟨fun e=>by omega,fun e=>absurd e.2.1 h2⟩
 ·rename_i h
  exact⟨fun e=>absurd e h,fun e=>absurd e.1 h⟩
end Go.Proofs.YtdjamdbamkhblacGreatDoor
