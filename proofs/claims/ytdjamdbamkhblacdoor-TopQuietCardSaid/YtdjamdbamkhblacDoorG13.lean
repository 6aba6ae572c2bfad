/- A kernel under way: its struct in a block of its own, its rows in blocks of their own; what a store makes of it. No condition. A kernel that is in order, and what is tidied: plain mathematics. -/
import Derived.Test.YtdjamdbamkhblacDoorG12
namespace Go.Proofs.YtdjamdbamkhblacDoor
open Go.RowKit
set_option linter.unusedVariables false
set_option linter.unusedSimpArgs false
def kTy (t:TypeId):Bool:=t == 36 || t == 90 || t == 3 || t == 52 || t == 9 || t == 79 || t == 65 || t == 82
def Aside (w w':World):Prop:=∀ (q:Nat) (t:TypeId) (cs:Array Value),kTy t=false→Blk w q t cs→Blk w' q t cs
theorem Aside.of_below {w w':World} (h:Below w.heap.size w w'):Aside w w':=fun q t cs _ hb=>hb.below h hb.lt
theorem Aside.of_tch {t:TypeId} {w w':World} (h:Tch t w w') (hk:kTy t=true):Aside w w':=fun q t' cs h1 hb=>hb.tch h (fun e=>by subst e;rw[hk] at h1;cases h1)
structure Fr (B:Nat) (w w':World):Prop where
 low':Below B w w'
 side:Aside w w'
 shape:∀ (q:Nat) (cs:Array Value),Blk w q 36 cs→∃ cs',Blk w' q 36 cs'∧cs'.size=cs.size
theorem Fr.refl (B:Nat) (w:World):Fr B w w:=⟨Below.refl B w,fun _ _ _ _ h=>h,fun _ cs h=>⟨cs,h,rfl⟩⟩
theorem Fr.trans {B:Nat} {w w' w'':World} (h:Fr B w w') (h':Fr B w' w''):Fr B w w'':=⟨h.low'.trans h'.low',fun q t cs hk hb=>h'.side q t cs hk (h.side q t cs hk hb),fun q cs hb=>by
 obtain⟨c1,h1,e1⟩:=h.shape q cs hb;obtain⟨c2,h2,e2⟩:=h'.shape q c1 h1;exact⟨c2,h2,e2.trans e1⟩⟩
theorem Fr.low {B:Nat} {w w':World} (h:Below w.heap.size w w') (hB:B≤w.heap.size):Fr B w w':=⟨h.mono hB, .of_below h,fun _ cs hb=>⟨cs,hb.below h hb.lt,rfl⟩⟩
theorem Fr.drewN {B:Nat} {w w':World} (h:Fr B w w') (n:Nat):Fr B w (w'.drewN n):=⟨Below.drewN' h.low' n,fun q t cs hk hb=>(h.side q t cs hk hb).drewN n,fun q cs hb=>by
 obtain⟨c1,h1,e1⟩:=h.shape q cs hb;exact⟨c1,h1.drewN n,e1⟩⟩
theorem Fr.blk {B:Nat} {w w':World} {q:Nat} {t:TypeId} {cs:Array Value} (h:Fr B w w') (hb:Blk w q t cs) (hk:kTy t=false):Blk w' q t cs:=h.side q t cs hk hb
theorem Tch.trans {t:TypeId} {w w' w'':World} (h:Tch t w w') (h':Tch t w' w''):Tch t w w'':=
 ⟨h'.os.trans h.os,h'.tape.trans h.tape,h'.output.trans h.output,Nat.le_trans h.size h'.size,fun q hq hne=>by
   have e:=h.block q hq hne;exact(h'.block q (Nat.lt_of_lt_of_le hq h.size) (by rw[e];exact hne)).trans e⟩
theorem Fr.tch {B:Nat} {t:TypeId} {w w':World} (hb:Below B w w') (ht:Tch t w w') (hk:kTy t=true) (hne:36≠t:=by decide):Fr B w w':=⟨hb, .of_tch ht hk,fun _ cs h=>⟨cs,h.tch ht hne,rfl⟩⟩
theorem Fr.kset {B g:Nat} {w:World} {cs:Array Value} (hB:B≤g) (h:Blk w g 36 cs) (i:Nat) (u:Value):Fr B w (w.setCell ⟨g,i,none⟩ u):=
 ⟨(Below.refl B w).setCell (p:=⟨g,i,none⟩) hB u, .of_tch (Tch.of_set (p:=⟨g,i,none⟩) h u) (by decide),fun q c1 h1=>by
   by_cases e:q=g
   ·subst e
    exact⟨_,h1.set_ i u,by simp⟩
   ·exact⟨c1,h1.far (p:=⟨g,i,none⟩) e u,rfl⟩⟩
theorem Fr.setNew {B:Nat} {w W:World} {q o:Nat} (h:Fr B w W) (hq:w.heap.size≤q) (hB:B≤q) (u:Value):Fr B w (W.setCell ⟨q,o,none⟩ u):=
 ⟨h.low'.setCell (p:=⟨q,o,none⟩) hB u,fun q' t cs hk hb=>(h.side q' t cs hk hb).far (p:=⟨q,o,none⟩) (by have:=hb.lt;show q'≠q;omega) u,fun q' cs hb=>by
   obtain⟨c1,h1,e1⟩:=h.shape q' cs hb;exact⟨c1,h1.far (p:=⟨q,o,none⟩) (by have:=hb.lt;show q'≠q;omega) u,e1⟩⟩
theorem Fr.ans3 {B:Nat} {w W:World} {q:Nat} (h:Fr B w W) (hq:w.heap.size≤q) (hB:B≤w.heap.size) (u0 u1 u2:Value):Fr B w (((W.setCell ⟨q,0,none⟩ u0).setCell ⟨q,1,none⟩ u1).setCell ⟨q,2,none⟩ u2):=
 ((h.setNew hq (by omega) u0).setNew hq (by omega) u1).setNew hq (by omega) u2
theorem Fr.new {B:Nat} {w W:World} (h:Fr B w W) (hB:B≤W.heap.size) (o:Obj):Fr B w (W.alloc o):=⟨h.low'.alloc hB o,fun q t cs hk hb=>(h.side q t cs hk hb).alloc o,fun q cs hb=>by
 obtain⟨c1,h1,e1⟩:=h.shape q cs hb;exact⟨c1,h1.alloc o,e1⟩⟩
structure KS (B:Nat) (w:World) (g:Nat) (a:KA) (k:Krn) (ms:List (Value × Value)) (es:List Value):Prop where
 lo:B≤g
 blk:Blk w g 36 (a.cells k)
 cp:Copied w B (.slice a.a0 k.mods.length a.c0) (.slice a.a1 k.mem.length a.c1) (.slice a.a2 k.nodes.length a.c2) (.slice a.a3 k.pipes.length a.c3) (.slice a.a4 k.procs.length a.c4) k ms es
 fits:k.fits
theorem KA.inj {a a':KA} {k:Krn} (h:a.cells k=a'.cells k):a=a':=by
 unfold KA.cells at h;cases a;cases a'
 simp at h;obtain⟨⟨h1,h2⟩,⟨h3,h4⟩,⟨h5,h6⟩,⟨h7,h8⟩,h9,h10⟩:=h;subst h1 h2 h3 h4 h5 h6 h7 h8 h9 h10;rfl
theorem Dz8 {w:World} {base:Nat} {e:TypeId} {size n m c:Nat} {A:Option Addr} {xs:List Value} (h:w.ownsRow base e size (.slice A m c) n xs):m=n∧n≤c:=by
 rcases h.2 with⟨h1,h2⟩|⟨g,cap,cur,hv,_,_,hnc,_⟩
 ·cases h1;exact⟨h2.symm,by omega⟩
 ·cases hv;exact⟨rfl,hnc⟩
theorem Azx {w:World} {base:Nat} {e:TypeId} {size n c:Nat} {A:Option Addr} {xs:List Value} (h:w.ownsRow base e size (.slice A n c) n xs) (hn:0<n):∃ g,A=some ⟨g,0,none⟩∧base≤g∧g<w.heap.size:=by
 obtain⟨g,cap,hv,hb,hlt⟩:=h.form hn;cases hv
 exact⟨g,rfl,hb,hlt⟩
section
variable {B:Nat} {w w':World} {g:Nat} {a:KA} {k:Krn} {ms:List (Value × Value)} {es:List Value}
theorem KS.krn (h:KS B w g a k ms es):KrnAt w w.heap.size a k:=by
 obtain⟨a',e,hk⟩:=h.cp.krn h.fits;have:a=a':=KA.inj (k:=k) e;subst this;exact hk
theorem KS.below (h:KS B w g a k ms es) (hb:Below w.heap.size w w'):KS B w' g a k ms es:=⟨h.lo,h.blk.below hb h.blk.lt,h.cp.below hb,h.fits⟩
theorem KS.caps (h:KS B w g a k ms es):a.caps k:=⟨(Dz8 h.cp.mods).2,(Dz8 h.cp.nodes).2,(Dz8 h.cp.mem).2⟩
theorem KS.lt (h:KS B w g a k ms es):B<w.heap.size:=Nat.lt_of_le_of_lt h.lo h.blk.lt
theorem KS.c5 (h:KS B w g a k ms es):w.cell? ⟨g,0,none⟩=some (.slice a.a0 k.mods.length a.c0)∧w.cell? ⟨g,1,none⟩=some (.slice a.a1 k.mem.length a.c1)∧w.cell? ⟨g,2,none⟩=some (.slice a.a2 k.nodes.length a.c2)∧w.cell? ⟨g,3,none⟩=some (.slice a.a3 k.pipes.length a.c3)∧w.cell? ⟨g,4,none⟩=some (.slice a.a4 k.procs.length a.c4):=
 ⟨h.blk.cell 0,h.blk.cell 1,h.blk.cell 2,h.blk.cell 3,h.blk.cell 4⟩
end
theorem Czo {B:Nat} {w:World} {b:Nat} (h:B≤b) (o:Nat) (u:Value):Below B w (w.setCell ⟨b,o,none⟩ u):=(Below.refl B w).setCell (p:=⟨b,o,none⟩) h u
theorem Eza {w:World} {base:Nat} {e:TypeId} {size n c b:Nat} {xs:List Value} (h:w.ownsRow base e size (.slice (some ⟨b,0,none⟩) n c) n xs) (j:Nat) (u:Value):
  (w.setCell ⟨b,j,none⟩ u).ownsRow base e size (.slice (some ⟨b,0,none⟩) n c) n (xs.set j u)∧Tch e w (w.setCell ⟨b,j,none⟩ u):=by
 obtain⟨h1,h2⟩:=h.stored j u;exact⟨h1,Tch.of_grown h h2⟩
theorem Hz4 {α:Type} (f:α→List Value) (s:Nat) (hf:∀ x,(f x).length=s):∀ (l:List α) (i:Nat) (h:i<l.length) (j:Nat) (hj:j<s) (u:Value) (y:α),f y=(f l[i]).set j u→(l.set i y).flatMap f=(l.flatMap f).set (i*s+j) u
 | [],i,h,_,_,_,_,_=>by cases h
 | x::r,0,_,j,hj,u,y,hy=>by
   have hx:f x=f (x::r)[0]:=rfl;rw[List.set_cons_zero,List.flatMap_cons,List.flatMap_cons,hy,Nat.zero_mul,Nat.zero_add,List.set_append_left _ _ (by rw[hf];exact hj)];rfl
 | x::r,i+1,h,j,hj,u,y,hy=>by
   rw[List.set_cons_succ,List.flatMap_cons,List.flatMap_cons,Hz4 f s hf r i (by simpa using h) j hj u y hy,List.set_append_right _ _ (by rw[hf,Nat.add_mul];omega),hf]
   congr 2
   rw[Nat.add_mul];omega
theorem Ezu {k k':Krn} (h:k.fits) (hm:k'.mods=k.mods) (hp:∀ p∈k'.procs,p.ends.length*24≤140737488351232) (h1:k'.mem.length=k.mem.length) (h2:k'.nodes.length=k.nodes.length) (h3:k'.pipes.length=k.pipes.length) (h4:k'.procs.length=k.procs.length):k'.fits:=
 ⟨by rw[hm];exact h.m,hp,by rw[hm];exact h.l0,by rw[h1];exact h.l1,by rw[h2];exact h.l2,by rw[h3];exact h.l3,by rw[h4];exact h.l4⟩
section
variable {B:Nat} {w w':World} {g b i:Nat} {a:KA} {k:Krn} {ms:List (Value × Value)} {es:List Value}
theorem KS.nodeCell (h:KS B w g a k ms es) (ha:a.a2=some ⟨b,0,none⟩) (hi:i<k.nodes.length) (j:Nat) (hj:j<4) (u:Value) (y:Nod)
  (hy:[Value.string y.name, .int .i64 y.kind, .string y.data, .int .i64 y.unit]=[Value.string k.nodes[i].name, .int .i64 k.nodes[i].kind, .string k.nodes[i].data, .int .i64 k.nodes[i].unit].set j u):
  KS B (w.setCell ⟨b,i*4+j,none⟩ u) g a (setNod k i y) ms es∧Fr B w (w.setCell ⟨b,i*4+j,none⟩ u):=by
 have hn:=h.cp.nodes;rw[ha] at hn;have hbb:B≤b:=(hn.lt b rfl).1;obtain⟨h1,ht⟩:=Eza hn (i*4+j) u;have hl:(setNod k i y).nodes.length=k.nodes.length:=List.length_set ..;have hc:Azs (k.nodes.set i y)=(Azs k.nodes).set (i*4+j) u:=Hz4 _ 4 (fun _=>rfl) _ _ hi j hj u y hy;rw[←hc, ←ha] at h1;refine⟨⟨h.lo,?_,?_,?_⟩, .tch (Czo hbb _ _) ht (by decide)⟩
 ·have:=h.blk.tch ht (by decide)
  unfold KA.cells at this ⊢;rw[hl];exact this
 ·rw[hl]
  exact⟨Az6 h.cp.mods ht (by decide),h.cp.rows.tch ht (by decide) (by decide),Az6 h.cp.mem ht (by decide),by rw[hl];exact h1,Az6 h.cp.pipes ht (by decide),Az6 h.cp.procs ht (by decide),h.cp.ends.tch ht (by decide),h.cp.apart,h.cp.each⟩
 ·exact Ezu h.fits rfl h.fits.p rfl hl rfl rfl
theorem KS.pipeCell (h:KS B w g a k ms es) (ha:a.a3=some ⟨b,0,none⟩) (s:ByteArray):
  KS B (w.setCell ⟨b,i,none⟩ (.string s)) g a { k with pipes:=k.pipes.set i s } ms es∧Fr B w (w.setCell ⟨b,i,none⟩ (.string s)):=by
 have hn:=h.cp.pipes;rw[ha] at hn;have hbb:B≤b:=(hn.lt b rfl).1;obtain⟨h1,ht⟩:=Eza hn i (.string s);have hl:(k.pipes.set i s).length=k.pipes.length:=List.length_set ..;have hc:strCells (k.pipes.set i s)=(strCells k.pipes).set i (.string s):=by unfold strCells;rw[List.map_set]
 rw[←hc, ←ha] at h1;refine⟨⟨h.lo,?_,?_,?_⟩, .tch (Czo hbb _ _) ht (by decide)⟩
 ·have:=h.blk.tch ht (by decide)
  unfold KA.cells at this ⊢;rw[hl];exact this
 ·simp only
  rw[hl];exact⟨Az6 h.cp.mods ht (by decide),h.cp.rows.tch ht (by decide) (by decide),Az6 h.cp.mem ht (by decide),Az6 h.cp.nodes ht (by decide),by rw[hl];exact h1,Az6 h.cp.procs ht (by decide),h.cp.ends.tch ht (by decide),h.cp.apart,h.cp.each⟩
 ·exact Ezu h.fits rfl h.fits.p rfl rfl hl rfl
end
theorem Ez1 {α:Type} (p:Nat→α→Bool):∀ (l:List α) (k:Nat),anyI p l k=false↔∀ i (h:i<l.length),p (k+i) l[i]=false
 | [],k=>by simp[anyI]
 | x::r,k=>by
   rw[anyI,Bool.or_eq_false_iff,Ez1 p r (k+1)];constructor
   ·rintro⟨h1,h2⟩ i hi
    cases i with
    | zero=>exact h1
    | succ i=>have:=h2 i (by simpa using hi);rw[show k+1+i=k+(i+1) by omega] at this;exact this
   ·intro h
    refine⟨h 0 (by simp),fun i hi=>?_⟩;have:=h (i+1) (by simpa using hi);rw[show k+1+i=k+(i+1) by omega];exact this
theorem Bz2 {α:Type} (f:Nat→α→α):∀ (l:List α) (k:Nat),(mapI f l k).length=l.length
 | [],_=>rfl
 | x::r,k=>by simp[mapI,Bz2 f r]
theorem Hza {α:Type} (f:Nat→α→α):∀ (l:List α) (k i:Nat),(mapI f l k)[i]? =l[i]?.map (f (k+i))
 | [],_,_=>by simp[mapI]
 | x::r,k,0=>by simp[mapI]
 | x::r,k,i+1=>by
   rw[mapI,List.getElem?_cons_succ,Hza f r,List.getElem?_cons_succ,show k+1+i=k+(i+1) by omega]
theorem Hzb {α:Type} (f:Nat→α→α) (l:List α) (i:Nat) (h:i<(mapI f l 0).length):(mapI f l 0)[i]=f i (l[i]'(by rw[Bz2] at h;exact h)):=by
 have:=Hza f l 0 i;rw[List.getElem?_eq_getElem h,List.getElem?_eq_getElem (by rw[Bz2] at h;exact h)] at this
 simpa using this
theorem Kz7 {α:Type} {p:α→Bool}:∀ {l:List α} {k:Nat},idxF p l k<0→l.any p=false
 | [],_,_=>rfl
 | x::r,k,h=>by
   rw[idxF] at h;rw[List.any_cons];cases hp:p x with
   | true=>rw[hp] at h;simp at h;omega
   | false=>rw[hp] at h;simpa using Kz7 h
theorem Bzx {α:Type} {p:α→Bool}:∀ {l:List α} {k:Nat},0≤idxF p l k→∃ i,∃ h:i<l.length,idxF p l k=((k+i:Nat):Int)∧p l[i]=true
 | [],_,h=>by simp[idxF] at h
 | x::r,k,h=>by
   rw[idxF] at h ⊢;cases hp:p x with
   | true=>exact⟨0,by simp,by simp,hp⟩
   | false=>
     rw[hp] at h;obtain⟨i,hi,he,hpi⟩:=Bzx (p:=p) (l:=r) (k:=k+1) (by simpa using h);exact⟨i+1,by simpa using hi,by simp only[Bool.false_eq_true,if_false];rw[he];congr 1;omega,by simpa using hpi⟩
theorem Mzh {a b:ByteArray}:(a == b)=true↔a=b:=by
 constructor
 ·intro h
  cases a;cases b
  congr
  exact eq_of_beq (α:=Array UInt8) h
 ·rintro rfl
  cases a
  exact beq_self_eq_true (α:=Array UInt8) _
theorem Fz7 {a b:ByteArray}:(a == b)=false↔a≠b:=by
 rw[←Bool.not_eq_true,Mzh]
theorem Czs {s:ByteArray}:empS s=true↔s=noS:=by
 obtain⟨⟨l⟩⟩:=s;cases l with
 | nil=>simp[empS,noS,ByteArray.size]
 | cons c r=>simp[empS,noS,ByteArray.size]
theorem Fzw:empS noS=true:=rfl
theorem Izc {s:ByteArray} (h:Azu s=true):empS s=false:=by
 unfold Azu at h;simp at h;unfold empS;rw[beq_eq_false_iff_ne];omega
structure KOk (k:Krn):Prop where
 l0:k.mods.length≤8
 l1:k.mem.length=1024
 l2:k.nodes.length=8
 l3:k.pipes.length=6
 l4:k.procs.length=4
 mods:∀ m∈k.mods,Az7 m=0
 modd:k.mods.Pairwise fun a b=>(a.name == b.name)=false
 mem:k.mem.any oddW=false
 nodes:∀ i (h:i<k.nodes.length),Bze k i k.nodes[i]=false
 procs:k.procs.any (Azv k)=false
 pipes:∀ i (h:i<k.pipes.length),Bzg k i k.pipes[i]=false
theorem Gz3:∀ (r pre:List Mod),Czv pre r=0↔(∀ m∈r,Az7 m=0)∧(∀ m∈r,pre.any (fun x=>x.name == m.name)=false)∧r.Pairwise fun a b=>(a.name == b.name)=false
 | [],pre=>by simp[Czv]
 | m::r,pre=>by
   rw[Czv];by_cases h1:Az7 m=0
   ·rw[if_pos h1]
    by_cases h2:pre.any (fun x=>x.name == m.name)=true
    ·rw[if_pos h2]
     constructor
     ·intro h;cases h
     ·rintro⟨_,h,_⟩
      have:=h m (by simp);rw[h2] at this;cases this
    ·rw[if_neg h2,Gz3 r (pre++ [m])]
     rw[Bool.not_eq_true] at h2;constructor
     ·rintro⟨a,b,c⟩
      refine⟨fun x hx=>?_,fun x hx=>?_,List.pairwise_cons.2 ⟨fun x hx=>?_,c⟩⟩
      ·rcases List.mem_cons.1 hx with rfl|hx
       ·exact h1
       ·exact a x hx
      ·rcases List.mem_cons.1 hx with rfl|hx
       ·exact h2
       ·have:=b x hx;rw[List.any_append,Bool.or_eq_false_iff] at this;exact this.1
      ·have:=b x hx;rw[List.any_append,Bool.or_eq_false_iff] at this;simpa using this.2
     ·rintro⟨a,b,c⟩
      obtain⟨c1,c2⟩:=List.pairwise_cons.1 c;refine⟨fun x hx=>a x (by simp[hx]),fun x hx=>?_,c2⟩;rw[List.any_append,Bool.or_eq_false_iff];exact⟨b x (by simp[hx]),by simpa using c1 x hx⟩
   ·rw[if_neg h1]
    constructor
    ·intro h;exact absurd h h1
    ·rintro⟨a,_⟩;exact absurd (a m (by simp)) h1
theorem Dzg (k:Krn):Bz3 k=0↔KOk k:=by
 unfold Bz3;constructor
 ·intro h
  by_cases h0:8<k.mods.length∨k.mem.length≠1024∨k.nodes.length≠8∨k.pipes.length≠6∨k.procs.length≠4
  ·rw[if_pos h0] at h;cases h
  rw[if_neg h0] at h;by_cases h1:Czv [] k.mods=0
  ·rw[if_pos h1] at h
   obtain⟨m1,_,m3⟩:=(Gz3 _ _).1 h1;cases h2:k.mem.any oddW with
   | true=>rw[h2] at h;simp at h
   | false=>
     rw[h2] at h;cases h3:anyI (Bze k) k.nodes 0 || k.procs.any (Azv k) || anyI (Bzg k) k.pipes 0 with
     | true=>rw[h3] at h;simp at h
     | false=>
       rw[Bool.or_eq_false_iff,Bool.or_eq_false_iff] at h3;obtain⟨⟨a,b⟩,c⟩:=h3;have a':=(Ez1 _ _ _).1 a;have c':=(Ez1 _ _ _).1 c;simp only[Nat.zero_add] at a' c';exact⟨by omega,by omega,by omega,by omega,by omega,m1,m3,h2,a',b,c'⟩
  ·rw[if_neg h1] at h;exact absurd h h1
 ·intro h
  have h0:¬ (8<k.mods.length∨k.mem.length≠1024∨k.nodes.length≠8∨k.pipes.length≠6∨k.procs.length≠4):=by
   have:=h.l0;have:=h.l1;have:=h.l2;have:=h.l3;have:=h.l4;omega
  have a':anyI (Bze k) k.nodes 0=false:=(Ez1 _ _ _).2 (by simpa using h.nodes);have c':anyI (Bzg k) k.pipes 0=false:=(Ez1 _ _ _).2 (by simpa using h.pipes);rw[if_neg h0,if_pos ((Gz3 _ _).2 ⟨h.mods,by simp,h.modd⟩),h.mem,a',c',h.procs];simp
structure KPre (k:Krn):Prop where
 l0:k.mods.length≤8
 l1:k.mem.length=1024
 l2:k.nodes.length=8
 l3:k.pipes.length=6
 l4:k.procs.length=4
 mods:∀ m∈k.mods,Az7 m=0
 modd:k.mods.Pairwise fun a b=>(a.name == b.name)=false
 mem:k.mem.any oddW=false
 nodes:∀ i (h:i<k.nodes.length),Bzh k.mods.length k.nodes[i]=true∧(k.nodes[i].name≠noS→Azu k.nodes[i].name=true∧k.nodes[i].kind≠0∧∀ j (hj:j<k.nodes.length),j<i→k.nodes[j].name≠k.nodes[i].name)
 procs:k.procs.any (Azv k)=false
 pipes:∀ i (h:i<k.pipes.length),k.pipes[i].size≤20
theorem Mzn {l:List Nod} {i:Nat} {s:ByteArray} (hi:i≤l.length):dupN (l.take i) s=false↔∀ j (hj:j<l.length),j<i→l[j].name≠s:=by
 unfold dupN;rw[List.any_eq_false];constructor
 ·intro h j hj hji
  have:=h l[j] (List.mem_iff_getElem.2 ⟨j,by rw[List.length_take];omega,by simp⟩);rw[Bool.not_eq_true,Fz7] at this;exact this
 ·intro h x hx
  obtain⟨j,hj,rfl⟩:=List.mem_iff_getElem.1 hx;rw[List.length_take] at hj;rw[List.getElem_take,Bool.not_eq_true,Fz7];exact h j (by omega) (by omega)
theorem Bz9 {k:Krn} {i:Nat} (hi:i<k.nodes.length):Bze k i k.nodes[i]=false↔
  (Bzh k.mods.length k.nodes[i]=true∧(k.nodes[i].name≠noS→Azu k.nodes[i].name=true∧k.nodes[i].kind≠0∧∀ j (hj:j<k.nodes.length),j<i→k.nodes[j].name≠k.nodes[i].name))∧
  (k.nodes[i].kind≠0→k.nodes[i].name=noS→hasE k.procs 1 i=true):=by
 unfold Bze;rw[Bool.or_eq_false_iff,Bool.or_eq_false_iff,Bool.not_eq_false'];refine and_congr (and_congr Iff.rfl ?_) ?_
 ·by_cases he:k.nodes[i].name=noS
  ·simp[he,Fzw]
  ·have:empS k.nodes[i].name=false:=by rw[←Bool.not_eq_true,Czs];exact he
   rw[this, ←Mzn (l:=k.nodes) (s:=k.nodes[i].name) (by omega)];simp[he,and_assoc]
 ·by_cases he:k.nodes[i].name=noS
  ·simp[he,Fzw]
  ·have:empS k.nodes[i].name=false:=by rw[←Bool.not_eq_true,Czs];exact he
   simp[this,he]
theorem Bzw {k:Krn} {i:Nat} {s:ByteArray}:Bzg k i s=false↔s.size≤20∧(s≠noS→hasE k.procs 2 i=true):=by
 unfold Bzg;rw[Bool.or_eq_false_iff];refine and_congr (by simp) ?_;by_cases he:s=noS
 ·simp[he,Fzw]
 ·have:empS s=false:=by rw[←Bool.not_eq_true,Czs];exact he
  simp[this,he]
theorem KOk.pre {k:Krn} (h:KOk k):KPre k:=
 ⟨h.l0,h.l1,h.l2,h.l3,h.l4,h.mods,h.modd,h.mem,fun i hi=>((Bz9 hi).1 (h.nodes i hi)).1,h.procs,fun i hi=>(Bzw.1 (h.pipes i hi)).1⟩
theorem KPre.ok {k:Krn} (h:KPre k) (h1:∀ i (hi:i<k.nodes.length),k.nodes[i].kind≠0→k.nodes[i].name=noS→hasE k.procs 1 i=true) (h2:∀ i (hi:i<k.pipes.length),k.pipes[i]≠noS→hasE k.procs 2 i=true):KOk k:=
 ⟨h.l0,h.l1,h.l2,h.l3,h.l4,h.mods,h.modd,h.mem,fun i hi=>(Bz9 hi).2 ⟨h.nodes i hi,h1 i hi⟩,h.procs,fun i hi=>Bzw.2 ⟨h.pipes i hi,h2 i hi⟩⟩
theorem KOk.open_ {k:Krn} (h:KOk k):(∀ i (hi:i<k.nodes.length),k.nodes[i].kind≠0→k.nodes[i].name=noS→hasE k.procs 1 i=true)∧(∀ i (hi:i<k.pipes.length),k.pipes[i]≠noS→hasE k.procs 2 i=true):=
 ⟨fun i hi=>((Bz9 hi).1 (h.nodes i hi)).2,fun i hi=>(Bzw.1 (h.pipes i hi)).2⟩
theorem Bza {k:Krn} {p:Prc}:Azv k p=false↔p.ends.length=6∧∀ x∈p.ends,endOk k x=true∧(p.live=false→x.kind=0):=by
 unfold Azv;rw[Bool.or_eq_false_iff,List.any_eq_false];refine and_congr (by simp) (forall_congr' fun x=>imp_congr_right fun _=>?_)
 rw[Bool.not_eq_true,Bool.or_eq_false_iff];cases p.live<;>simp
theorem Bzj {k:Krn}:k.procs.any (Azv k)=false↔∀ i (h:i<k.procs.length),Azv k k.procs[i]=false:=by
 rw[List.any_eq_false];constructor
 ·intro h i hi
  have:=h _ (List.getElem_mem hi)
  simpa using this
 ·intro h x hx
  obtain⟨i,hi,rfl⟩:=List.mem_iff_getElem.1 hx;rw[h i hi];simp
theorem Lzh {n:Nat} {x:Nod} (h:Bzh n x=true) (hk:x.kind=0):x=default:=by
 unfold Bzh at h;rw[if_pos hk] at h;simp only[Bool.and_eq_true,Czs,beq_iff_eq] at h;obtain⟨⟨a,b⟩,c⟩:=h;obtain⟨n,k,d,u⟩:=x;simp only at a b c hk;subst a;subst b;subst c;subst hk;rfl
theorem Kz4 {ps:List Prc} {kd pl:Int}:hasE ps kd pl=true↔∃ p∈ps,∃ x∈p.ends,x.kind=kd∧x.node=pl:=by
 simp[hasE,hasP]
theorem Jzo {k:Krn} (h:KPre k):KOk (Cza k):=by
 have hlen:(Cza k).nodes.length=k.nodes.length:=Bz2 _ _ _;have hlp:(Cza k).pipes.length=k.pipes.length:=Bz2 _ _ _;have hnod:∀ i (hi:i<(Cza k).nodes.length),(Cza k).nodes[i]=Cz2 k.procs i (k.nodes[i]'(by rw[hlen] at hi;exact hi)):=fun i hi=>Hzb _ _ _ hi
 have hpip:∀ i (hi:i<(Cza k).pipes.length),(Cza k).pipes[i]=Ezl k.procs i (k.pipes[i]'(by rw[hlp] at hi;exact hi)):=fun i hi=>Hzb _ _ _ hi
 have hname:∀ (i:Nat) (x:Nod),(Cz2 k.procs i x).name=noS∨(Cz2 k.procs i x)=x:=fun i x=>by
  unfold Cz2;split
  ·left;rfl
  ·right;rfl
 refine KPre.ok ⟨h.l0,h.l1,hlen.trans h.l2,hlp.trans h.l3,h.l4,h.mods,h.modd,h.mem,fun i hi=>?_,?_,fun i hi=>?_⟩ (fun i hi hk hn=>?_) (fun i hi hn=>?_)
 ·have hi':i<k.nodes.length:=by rw[hlen] at hi;exact hi
  obtain⟨a,b⟩:=h.nodes i hi';rw[hnod i hi];refine⟨?_,fun hne=>?_⟩
  ·show Bzh k.mods.length _=true
   unfold Cz2;split
   ·rfl
   ·exact a
  ·rcases hname i k.nodes[i] with e|e
   ·exact absurd e hne
   ·rw[e] at hne ⊢
    obtain⟨b1,b2,b3⟩:=b hne;refine⟨b1,b2,fun j hj hji=>?_⟩;rw[hnod j hj];rcases hname j (k.nodes[j]'(by rw[hlen] at hj;exact hj)) with e'|e'
    ·rw[e'];exact fun e''=>hne e''.symm
    ·rw[e'];exact b3 j (by rw[hlen] at hj;exact hj) hji
 ·rw[Bzj]
  intro i hi;have hp:=(Bzj.1 h.procs) i hi;rw[Bza] at hp ⊢;refine⟨hp.1,fun x hx=>⟨?_,(hp.2 x hx).2⟩⟩;have hx1:=(hp.2 x hx).1;unfold endOk at hx1 ⊢;by_cases k0:x.kind=0
  ·rw[if_pos k0] at hx1 ⊢;exact hx1
  rw[if_neg k0] at hx1 ⊢;by_cases k1:x.kind=1
  ·rw[if_pos k1] at hx1 ⊢
   simp only[Bool.and_eq_true,decide_eq_true_eq,bne_iff_ne] at hx1 ⊢;obtain⟨⟨⟨a1,a2⟩,a3⟩,a4⟩:=hx1;refine⟨⟨⟨a1,a2⟩,?_⟩,a4⟩;have hj:x.node.toNat<(Cza k).nodes.length:=by rw[hlen,h.l2];omega
   have hj':x.node.toNat<k.nodes.length:=by rw[h.l2];omega
   rw[List.getD_eq_getElem?_getD,List.getElem?_eq_getElem hj,Option.getD_some,hnod _ hj];rw[List.getD_eq_getElem?_getD,List.getElem?_eq_getElem hj',Option.getD_some] at a3;have hh:hasE k.procs 1 (x.node.toNat:Int)=true:=Kz4.2 ⟨_,List.getElem_mem hi,x,hx,k1,by omega⟩;unfold Cz2;rw[hh]
   simpa using a3
  rw[if_neg k1] at hx1 ⊢;exact hx1
 ·rw[hpip i hi]
  unfold Ezl;split
  ·exact h.pipes i _
  ·show (0:Nat)≤20;omega
 ·rw[hnod i hi] at hk hn
  unfold Cz2 at hk hn;split at hk
  ·exact absurd rfl hk
  ·rename_i hc
   rw[if_neg hc] at hn;rw[hn] at hc;have:hasE k.procs 1 i=true:=by simpa [Fzw] using hc
   exact this
 ·rw[hpip i hi] at hn
  unfold Ezl at hn;split at hn
  ·assumption
  ·exact absurd rfl hn
end Go.Proofs.YtdjamdbamkhblacDoor
