/- The walk of kern.Copy: new memory that reads as the kernel did, each row in a block of its own. -/
import Derived.Test.YtdjamdbamkhblacDoorG10
import Derived.Test.YtdjamdbamkhblacDoorG11
import Derived.Deep.RegionLaw
namespace Go.Proofs.YtdjamdbamkhblacDoor
open Go.RowKit
def Azs (l:List Nod):List Value:=l.flatMap fun x=>[.string x.name, .int .i64 x.kind, .string x.data, .int .i64 x.unit]
def strCells (l:List ByteArray):List Value:=l.map Value.string
def Azf (l:List Opn):List Value:=l.flatMap fun x=>[.int .i64 x.kind, .int .i64 x.node, .int .i64 x.pos]
def Bz1:List Mod→List (Value × Value)→List Value
 | m::r,x::s=> .string m.name::x.1::x.2::Bz1 r s
 | _,_=>[]
def Azk:List Prc→List Value→List Value
 | p::r,x::s=> .bool p.live::x::Azk r s
 | _,_=>[]
theorem Czu:∀ (l:List Mod) (ms:List (Value × Value)) (m:Mod) (x:Value × Value),ms.length=l.length→Bz1 (l++ [m]) (ms++ [x])=Bz1 l ms++ [.string m.name,x.1,x.2]
 | [],[],m,x,_=>rfl
 | a::r,y::s,m,x,h=>by
   rw[List.cons_append,List.cons_append,Bz1,Czu r s m x (by simpa using h)];rfl
 | [],_::_,_,_,h=>by simp at h
 | _::_,[],_,_,h=>by simp at h
theorem Ezf:∀ (l:List Prc) (es:List Value) (p:Prc) (x:Value),es.length=l.length→Azk (l++ [p]) (es++ [x])=Azk l es++ [.bool p.live,x]
 | [],[],p,x,_=>rfl
 | a::r,y::s,p,x,h=>by
   rw[List.cons_append,List.cons_append,Azk,Ezf r s p x (by simpa using h)];rfl
 | [],_::_,_,_,h=>by simp at h
 | _::_,[],_,_,h=>by simp at h
def ModRows (w:World) (B:Nat):List Mod→List (Value × Value)→Prop
 | [],[]=>True
 | m::r,x::s=>(w.ownsRow B 65 4 x.1 m.code.length (Az1 m.code)∧w.ownsRow B 3 1 x.2 m.data.length (intCells m.data))∧ModRows w B r s
 | _,_=>False
def PrcRows (w:World) (B:Nat):List Prc→List Value→Prop
 | [],[]=>True
 | p::r,x::s=>w.ownsRow B 82 3 x p.ends.length (Azf p.ends)∧PrcRows w B r s
 | _,_=>False
theorem ModRows.len {w:World} {B:Nat}:∀ {l:List Mod} {ms:List (Value × Value)},ModRows w B l ms→ms.length=l.length
 | [],[],_=>rfl
 | _::_,_::_,h=>by simp[ModRows.len h.2]
 | [],_::_,h=>h.elim
 | _::_,[],h=>h.elim
theorem PrcRows.len {w:World} {B:Nat}:∀ {l:List Prc} {es:List Value},PrcRows w B l es→es.length=l.length
 | [],[],_=>rfl
 | _::_,_::_,h=>by simp[PrcRows.len h.2]
 | [],_::_,h=>h.elim
 | _::_,[],h=>h.elim
theorem ModRows.keep {w w':World} {B:Nat} (hk:∀ e size v n xs,(e=65∨e=3)→w.ownsRow B e size v n xs→w'.ownsRow B e size v n xs):∀ {l:List Mod} {ms:List (Value × Value)},ModRows w B l ms→ModRows w' B l ms
 | [],[],_=>trivial
 | _::_,_::_,h=>⟨⟨hk _ _ _ _ _ (.inl rfl) h.1.1,hk _ _ _ _ _ (.inr rfl) h.1.2⟩,ModRows.keep hk h.2⟩
 | [],_::_,h=>h.elim
 | _::_,[],h=>h.elim
theorem PrcRows.keep {w w':World} {B:Nat} (hk:∀ size v n xs,w.ownsRow B 82 size v n xs→w'.ownsRow B 82 size v n xs):∀ {l:List Prc} {es:List Value},PrcRows w B l es→PrcRows w' B l es
 | [],[],_=>trivial
 | _::_,_::_,h=>⟨hk _ _ _ _ h.1,PrcRows.keep hk h.2⟩
 | [],_::_,h=>h.elim
 | _::_,[],h=>h.elim
theorem ModRows.snoc {w:World} {B:Nat}:∀ {l:List Mod} {ms:List (Value × Value)} {m:Mod} {x:Value × Value},ModRows w B l ms→w.ownsRow B 65 4 x.1 m.code.length (Az1 m.code)→w.ownsRow B 3 1 x.2 m.data.length (intCells m.data)→ModRows w B (l++ [m]) (ms++ [x])
 | [],[],_,_,_,h1,h2=>⟨⟨h1,h2⟩,trivial⟩
 | _::_,_::_,_,_,h,h1,h2=>⟨h.1,ModRows.snoc h.2 h1 h2⟩
 | [],_::_,_,_,h,_,_=>h.elim
 | _::_,[],_,_,h,_,_=>h.elim
theorem PrcRows.snoc {w:World} {B:Nat}:∀ {l:List Prc} {es:List Value} {p:Prc} {x:Value},PrcRows w B l es→w.ownsRow B 82 3 x p.ends.length (Azf p.ends)→PrcRows w B (l++ [p]) (es++ [x])
 | [],[],_,_,_,h1=>⟨h1,trivial⟩
 | _::_,_::_,_,_,h,h1=>⟨h.1,PrcRows.snoc h.2 h1⟩
 | [],_::_,_,_,h,_=>h.elim
 | _::_,[],_,_,h,_=>h.elim
theorem ModRows.tch {w w':World} {B:Nat} {t:TypeId} {l:List Mod} {ms:List (Value × Value)} (h:ModRows w B l ms) (ht:Tch t w w') (h1:65≠t) (h2:3≠t):ModRows w' B l ms:=
 h.keep fun e _ _ _ _ he ho=>Az6 ho ht (by rcases he with rfl|rfl;exact h1;exact h2)
theorem PrcRows.tch {w w':World} {B:Nat} {t:TypeId} {l:List Prc} {es:List Value} (h:PrcRows w B l es) (ht:Tch t w w') (h1:82≠t):PrcRows w' B l es:=
 h.keep fun _ _ _ _ ho=>Az6 ho ht h1
theorem PrcRows.mem {w:World} {B:Nat} {y:Value}:∀ {l:List Prc} {es:List Value},PrcRows w B l es→y∈es→∃ n ys,w.ownsRow B 82 3 y n ys
 | [],[],_,h=>by cases h
 | _::_,_::_,h,hy=>by
   rcases List.mem_cons.1 hy with rfl|hy
   ·exact⟨_,_,h.1⟩
   ·exact PrcRows.mem h.2 hy
 | [],_::_,h,_=>h.elim
 | _::_,[],h,_=>h.elim
structure Copied (w:World) (base:Nat) (V0 V1 V2 V3 V4:Value) (k:Krn) (ms:List (Value × Value)) (es:List Value):Prop where
 mods:w.ownsRow base 90 3 V0 k.mods.length (Bz1 k.mods ms)
 rows:ModRows w base k.mods ms
 mem:w.ownsRow base 3 1 V1 k.mem.length (intCells k.mem)
 nodes:w.ownsRow base 52 4 V2 k.nodes.length (Azs k.nodes)
 pipes:w.ownsRow base 9 1 V3 k.pipes.length (strCells k.pipes)
 procs:w.ownsRow base 79 2 V4 k.procs.length (Azk k.procs es)
 ends : PrcRows w base k.procs es
 apart:∀ x∈ms,x.2.ownBlock=none∨x.2.ownBlock≠V1.ownBlock
 each:es.Pairwise fun x y=>x.ownBlock=none∨x.ownBlock≠y.ownBlock
theorem Copied.tch {w w':World} {base:Nat} {V0 V1 V2 V3 V4:Value} {k:Krn} {ms:List (Value × Value)} {es:List Value} {t:TypeId} (h:Copied w base V0 V1 V2 V3 V4 k ms es) (ht:Tch t w w')
  (n0:90≠t) (n1:3≠t) (n2:52≠t) (n3:9≠t) (n4:79≠t) (n5:65≠t) (n6:82≠t):Copied w' base V0 V1 V2 V3 V4 k ms es:=
 ⟨Az6 h.mods ht n0,h.rows.tch ht n5 n1,Az6 h.mem ht n1,Az6 h.nodes ht n2,Az6 h.pipes ht n3,Az6 h.procs ht n4,h.ends.tch ht n6,h.apart,h.each⟩
theorem Copied.below {w w':World} {base:Nat} {V0 V1 V2 V3 V4:Value} {k:Krn} {ms:List (Value × Value)} {es:List Value} (h:Copied w base V0 V1 V2 V3 V4 k ms es) (hb:Below w.heap.size w w'):Copied w' base V0 V1 V2 V3 V4 k ms es:=
 ⟨own_below h.mods hb,h.rows.keep fun _ _ _ _ _ _ ho=>own_below ho hb,own_below h.mem hb,own_below h.nodes hb,own_below h.pipes hb,own_below h.procs hb,h.ends.keep fun _ _ _ _ ho=>own_below ho hb,h.apart,h.each⟩
structure CopyR (w0 wr:World) (a:KA) (k:Krn) (g:Nat) (V0 V1 V2 V3 V4:Value) (i j:Nat) (ms:List (Value × Value)) (es:List Value):Prop where
 below:Below w0.heap.size w0 wr
 box:Blk wr w0.heap.size 36 (a.cells k)
 res:Blk wr (w0.heap.size+1) 36 #[.slice none 0 0, .slice none 0 0, .slice none 0 0, .slice none 0 0, .slice none 0 0]
 lo:w0.heap.size+1<g
 blk:Blk wr g 36 #[V0,V1,V2,V3,V4]
 made:Copied wr w0.heap.size V0 V1 V2 V3 V4 ⟨k.mods.take i,k.mem,k.nodes,k.pipes,k.procs.take j⟩ ms es
theorem Qzg {w:World} {e:TypeId} {base size n:Nat} {v:Value} {xs:List Value} {q:Nat} (h:w.ownsRow base e size v n xs) (hq:q<base):v.ownBlock≠some q:=fun e=>by
 obtain⟨h1,_⟩:=h.lt q e;omega
theorem Hzt {w W:World} {e e':TypeId} {base size size' n n':Nat} {v u:Value} {xs ys:List Value} (h:w.ownsRow base e size v n xs) (h':W.ownsRow w.heap.size e' size' u n' ys):u.ownBlock=none∨u.ownBlock≠v.ownBlock:=by
 rcases h.2 with⟨rfl,_⟩|⟨g,cap,cur,rfl,_,hh,_⟩
 ·rcases h'.2 with⟨rfl,_⟩|⟨g',cap',cur',rfl,_⟩
  ·exact .inl rfl
  ·exact .inr (by simp[Value.ownBlock])
 ·exact .inr (Qzg h' (Blk.lt (cs:=cur) hh))
theorem CopyR.nextM {w0 wr W w1:World} {a:KA} {k:Krn} {g i:Nat} {V0 V1 V2 V3 V4 V0' v u:Value} {ms:List (Value × Value)} {es:List Value} (h:CopyR w0 wr a k g V0 V1 V2 V3 V4 i 0 ms es) (hi:i<k.mods.length)
  (hW:Below wr.heap.size wr W) (hc:W.ownsRow wr.heap.size 65 4 v k.mods[i].code.length (Az1 k.mods[i].code)) (hd:W.ownsRow wr.heap.size 3 1 u k.mods[i].data.length (intCells k.mods[i].data))
  (h1:w1.ownsRow w0.heap.size 90 3 V0' ((k.mods.take i).length+1) (Bz1 (k.mods.take i) ms++ [.string k.mods[i].name,v,u])) (hg:W.grownBy w1 V0.ownBlock):
  CopyR w0 (w1.setCell ⟨g,0,none⟩ V0') a k g V0' V1 V2 V3 V4 (i+1) 0 (ms++ [(v,u)]) es:=by
 have hlt:w0.heap.size<wr.heap.size:=Nat.lt_of_le_of_lt (Nat.le_succ _) (Nat.lt_trans h.lo h.blk.lt);have hm:W.ownsRow w0.heap.size 90 3 V0 _ _:=own_below h.made.mods hW;have t1:=Tch.of_grown hm hg;have kg:Blk w1 g 36 _:=(h.blk.below hW h.blk.lt).tch t1 (by decide);have t2:=Tch.of_set (p:=⟨g,0,none⟩) kg V0';have tk:k.mods.take (i+1)=k.mods.take i++ [k.mods[i]]:=by rw[List.take_succ_eq_append_getElem hi]
 have hC:=own_base (B:=w0.heap.size) (Az6 (Az6 hc t1 (by decide)) t2 (by decide)) (Nat.le_of_lt hlt);have hD:=own_base (B:=w0.heap.size) (Az6 (Az6 hd t1 (by decide)) t2 (by decide)) (Nat.le_of_lt hlt);have hrows:=((h.made.rows.keep (fun _ _ _ _ _ _ ho=>own_below ho hW)).tch t1 (by decide) (by decide)).tch t2 (by decide) (by decide);have far:∀ {q:Nat} {cs:Array Value},Blk wr q 36 cs→q≠g→Blk (w1.setCell ⟨g,0,none⟩ V0') q 36 cs:=fun hq hne=>
  ((hq.below hW hq.lt).tch t1 (by decide)).far (p:=⟨g,0,none⟩) hne V0'
 refine⟨?_,far h.box (by have:=h.lo;omega),far h.res (Nat.ne_of_lt h.lo),h.lo,kg.set_ 0 V0',?_⟩
 ·have b1:=h.below.trans (hW.mono h.below.size)
  exact(b1.grown hg (Nat.le_trans h.below.size hW.size) (fun q hq=>(hm.lt q hq).1)).setCell (p:=⟨g,0,none⟩) (by have:=h.lo;show w0.heap.size≤g;omega) V0'
 ·refine⟨?_,?_,Az6 (Az6 (own_below h.made.mem hW) t1 (by decide)) t2 (by decide),Az6 (Az6 (own_below h.made.nodes hW) t1 (by decide)) t2 (by decide),Az6 (Az6 (own_below h.made.pipes hW) t1 (by decide)) t2 (by decide),
   Az6 (Az6 (own_below h.made.procs hW) t1 (by decide)) t2 (by decide),((h.made.ends.keep (fun _ _ _ _ ho=>own_below ho hW)).tch t1 (by decide)).tch t2 (by decide),?_,h.made.each⟩
  ·show World.ownsRow _ _ _ _ _ (k.mods.take (i+1)).length (Bz1 (k.mods.take (i+1)) _)
   rw[tk,Czu _ _ _ _ h.made.rows.len,List.length_append];exact Az6 h1 t2 (by decide)
  ·show ModRows _ _ (k.mods.take (i+1)) _
   rw[tk];exact hrows.snoc hC hD
  ·intro x hx
   rcases List.mem_append.1 hx with hx|hx
   ·exact h.made.apart x hx
   ·obtain rfl:x=(v,u):=by simpa using hx
    exact Hzt h.made.mem hd
theorem CopyR.nextP {w0 wr W w1:World} {a:KA} {k:Krn} {g i j:Nat} {V0 V1 V2 V3 V4 V4' x:Value} {ms:List (Value × Value)} {es:List Value} (h:CopyR w0 wr a k g V0 V1 V2 V3 V4 i j ms es) (hj:j<k.procs.length)
  (hW:Below wr.heap.size wr W) (hx:W.ownsRow wr.heap.size 82 3 x k.procs[j].ends.length (Azf k.procs[j].ends))
  (h1:w1.ownsRow w0.heap.size 79 2 V4' ((k.procs.take j).length+1) (Azk (k.procs.take j) es++ [.bool k.procs[j].live,x])) (hg:W.grownBy w1 V4.ownBlock):
  CopyR w0 (w1.setCell ⟨g,4,none⟩ V4') a k g V0 V1 V2 V3 V4' i (j+1) ms (es++ [x]):=by
 have hlt:w0.heap.size<wr.heap.size:=Nat.lt_of_le_of_lt (Nat.le_succ _) (Nat.lt_trans h.lo h.blk.lt);have hm:W.ownsRow w0.heap.size 79 2 V4 _ _:=own_below h.made.procs hW;have t1:=Tch.of_grown hm hg;have kg:Blk w1 g 36 _:=(h.blk.below hW h.blk.lt).tch t1 (by decide);have t2:=Tch.of_set (p:=⟨g,4,none⟩) kg V4';have tk:k.procs.take (j+1)=k.procs.take j++ [k.procs[j]]:=by rw[List.take_succ_eq_append_getElem hj]
 have hX:=own_base (B:=w0.heap.size) (Az6 (Az6 hx t1 (by decide)) t2 (by decide)) (Nat.le_of_lt hlt);have hends:=((h.made.ends.keep (fun _ _ _ _ ho=>own_below ho hW)).tch t1 (by decide)).tch t2 (by decide);have far:∀ {q:Nat} {cs:Array Value},Blk wr q 36 cs→q≠g→Blk (w1.setCell ⟨g,4,none⟩ V4') q 36 cs:=fun hq hne=>
  ((hq.below hW hq.lt).tch t1 (by decide)).far (p:=⟨g,4,none⟩) hne V4'
 refine⟨?_,far h.box (by have:=h.lo;omega),far h.res (Nat.ne_of_lt h.lo),h.lo,kg.set_ 4 V4',?_⟩
 ·have b1:=h.below.trans (hW.mono h.below.size)
  exact(b1.grown hg (Nat.le_trans h.below.size hW.size) (fun q hq=>(hm.lt q hq).1)).setCell (p:=⟨g,4,none⟩) (by have:=h.lo;show w0.heap.size≤g;omega) V4'
 ·refine⟨Az6 (Az6 (own_below h.made.mods hW) t1 (by decide)) t2 (by decide),((h.made.rows.keep (fun _ _ _ _ _ _ ho=>own_below ho hW)).tch t1 (by decide) (by decide)).tch t2 (by decide) (by decide),
   Az6 (Az6 (own_below h.made.mem hW) t1 (by decide)) t2 (by decide),Az6 (Az6 (own_below h.made.nodes hW) t1 (by decide)) t2 (by decide),Az6 (Az6 (own_below h.made.pipes hW) t1 (by decide)) t2 (by decide),?_,?_,h.made.apart,?_⟩
  ·show World.ownsRow _ _ _ _ _ (k.procs.take (j+1)).length (Azk (k.procs.take (j+1)) _)
   rw[tk,Ezf _ _ _ _ h.made.ends.len,List.length_append];exact Az6 h1 t2 (by decide)
  ·show PrcRows _ _ (k.procs.take (j+1)) _
   rw[tk];exact hends.snoc hX
  ·have ap:∀ y∈es,y.ownBlock=none∨y.ownBlock≠x.ownBlock:=by
    intro y hy;have:=h.made.ends.mem hy;obtain⟨n,ys,ho⟩:=this;rcases Hzt ho hx with e|e
    ·rw[e]
     cases hy0:y.ownBlock with
     | none=>exact .inl rfl
     | some q=>exact .inr (by simp)
    ·exact .inr (Ne.symm e)
   rw[List.pairwise_append];exact⟨h.made.each,List.pairwise_singleton _ _,fun y hy z hz=>by
    obtain rfl:z=x:=by simpa using hz
    exact ap y hy⟩
end Go.Proofs.YtdjamdbamkhblacDoor
