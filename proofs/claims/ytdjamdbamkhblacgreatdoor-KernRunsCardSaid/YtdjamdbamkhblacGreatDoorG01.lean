/- Small words for memory and plain data that the walks of this seat use: no condition. a slice that reads as cells; append onto a row of the call's own from it. Lists of instructions and of integers as rows of cells; rows of the call's own read as lists: no condition. A block that is known whole, and how it is kept: no condition. What a step may touch: only blocks of one element type, and new ones: no condition. What every law's proof of this seat shares: from a walk that leaves old memory as it was to the row's last step; arguments opened. No condition. A module, as plain data and as a value in memory. -/
import Derived.Test.YtdjamdbamkhblacGreatDoorRows
import Derived.WalkKit
import Derived.WalkSpells
import Derived.WalkLawsBesides
import Derived.Lib.Hide
import Derived.Deep.LoopGhost
import Derived.LoopN
import Derived.Handy
import Derived.PlainAid
import Derived.Deep.RegionHeld3
import Derived.BigQuiet
import Derived.Deep.QuietTactic
import Derived.Deep.DeepCutAuto
import Derived.Deep.Slices
import Derived.Deep.Fields
import Derived.Deep.Draws
import Derived.Deep.AppendLies
import Derived.Maps.AppendAt
import Derived.Laws.OwnMore
import Derived.Laws.BitsAllLaws
import Derived.Laws.BitsLemmas
import Derived.ChangeSame
import Derived.ProofKit
import Derived.OpenShut
import Derived.Lib.SmallJoins
import Derived.Deep.DeepHandedRow
import Derived.Lib.LaidTab
namespace Go.Proofs.YtdjamdbamkhblacGreatDoor
open Go.RowKit
theorem Ize {W w1:World} (hb:Below W.heap.size W w1):(∀ b o,b<W.heap.size→w1.cell? ⟨b,o,none⟩=W.cell? ⟨b,o,none⟩)∧(∀ b o,b<W.heap.size→w1.frozen? ⟨b,o,none⟩=W.frozen? ⟨b,o,none⟩):=
 ⟨fun b o h=>hb.cell (p:=⟨b,o,none⟩) h,fun b o h=>hb.frozen (p:=⟨b,o,none⟩) h⟩
theorem Below.drewN' {B:Nat} {a w:World} (h:Below B a w) (n:Nat):Below B a (w.drewN n):=⟨h.os,h.tape,h.output,h.size,h.block⟩
theorem Az8 {k:IntKind} {a b:Int} (h:a=b):Ending.returned (.int k a)= .returned (.int k b):=by rw[h]
theorem Az9 {a b:Bool} (h:a=b):Ending.returned (.bool a)= .returned (.bool b):=by rw[h]
theorem Cz0 {P:Program} {f:FuncId} {args:Array Value} {w:World} {n:Nat} {v:Value}
  (h:Calls P f args (w.drewN n) fun e w'=>e= .returned v∧w.drewN n=w'):Calls P f args (w.drewN n) fun e w''=>e= .returned v∧∃ m,w''=w.drewN m:=
 h.mono fun _ _ ⟨he,hm⟩=>⟨he,n,hm.symm⟩
def Cnt (n:Nat) (i:Value) (p:Nat→Prop):Prop:=∃ k:Nat,k≤n∧i= .int .i64 k∧p k
structure Ins where
 op:Int
 a:Int
 b:Int
 c:Int
theorem Ins.ext' {i j:Ins} (h0:i.op=j.op) (h1:i.a=j.a) (h2:i.b=j.b) (h3:i.c=j.c):i=j:=by
 cases i;cases j;simp_all
instance : DecidableEq Ins := fun i j =>
 if h:i.op=j.op∧i.a=j.a∧i.b=j.b∧i.c=j.c then .isTrue (Ins.ext' h.1 h.2.1 h.2.2.1 h.2.2.2)
 else .isFalse (fun e=>h (by subst e;exact⟨rfl,rfl,rfl,rfl⟩))
instance : Inhabited Ins := ⟨⟨0, 0, 0, 0⟩⟩
def Ins.val (i:Ins):Value:= .agg #[.int .i64 i.op, .int .i64 i.a, .int .i64 i.b, .int .i64 i.c]
def RdI (w:World) (B:Nat) (A:Option Addr) (l:List Ins):Prop:=
 0<l.length→∃ b o,A=some ⟨b,o,none⟩∧b<B∧∀ k (h:k<l.length),
  w.cell? ⟨b,o+k*4,none⟩=some (.int .i64 l[k].op)∧w.cell? ⟨b,o+k*4+1,none⟩=some (.int .i64 l[k].a)∧
  w.cell? ⟨b,o+k*4+2,none⟩=some (.int .i64 l[k].b)∧w.cell? ⟨b,o+k*4+3,none⟩=some (.int .i64 l[k].c)
def RdN (w:World) (B:Nat) (A:Option Addr) (l:List Int):Prop:=
 0<l.length→∃ b o,A=some ⟨b,o,none⟩∧b<B∧∀ k (h:k<l.length),w.cell? ⟨b,o+k,none⟩=some (.int .i64 l[k])
theorem RdI.keep {w w':World} {B:Nat} {A:Option Addr} {l:List Ins} (h:RdI w B A l) (hk:∀ p:Addr,p.block<B→w'.cell? p=w.cell? p):RdI w' B A l:=fun hl=>by
 obtain⟨b,o,e,hb,hc⟩:=h hl;refine⟨b,o,e,hb,fun k hk'=>?_⟩;obtain⟨h0,h1,h2,h3⟩:=hc k hk';exact⟨(hk _ hb).trans h0,(hk _ hb).trans h1,(hk _ hb).trans h2,(hk _ hb).trans h3⟩
theorem RdI.below {w w':World} {B:Nat} {A:Option Addr} {l:List Ins} (h:RdI w B A l) (hb:Below B w w'):RdI w' B A l:=h.keep fun _ hp=>hb.cell hp
theorem RdI.more {w:World} {B B':Nat} {A:Option Addr} {l:List Ins} (h:RdI w B A l) (hB:B≤B'):RdI w B' A l:=fun hl=>by
 obtain⟨b,o,e,hb,hc⟩:=h hl;exact⟨b,o,e,by omega,hc⟩
theorem RdN.keep {w w':World} {B:Nat} {A:Option Addr} {l:List Int} (h:RdN w B A l) (hk:∀ p:Addr,p.block<B→w'.cell? p=w.cell? p):RdN w' B A l:=fun hl=>by
 obtain⟨b,o,e,hb,hc⟩:=h hl;exact⟨b,o,e,hb,fun k hk'=>(hk _ hb).trans (hc k hk')⟩
theorem RdN.below {w w':World} {B:Nat} {A:Option Addr} {l:List Int} (h:RdN w B A l) (hb:Below B w w'):RdN w' B A l:=h.keep fun _ hp=>hb.cell hp
theorem RdN.more {w:World} {B B':Nat} {A:Option Addr} {l:List Int} (h:RdN w B A l) (hB:B≤B'):RdN w B' A l:=fun hl=>by
 obtain⟨b,o,e,hb,hc⟩:=h hl;exact⟨b,o,e,by omega,hc⟩
def Rd (w:World) (B size:Nat) (A:Option Addr) (n:Nat) (xs:List Value):Prop:=
 xs.length=n*size∧(0<n→∃ b o,A=some ⟨b,o,none⟩∧b<B∧∀ j u,xs[j]? =some u→w.cell? ⟨b,o+j,none⟩=some u)
theorem Rd.keep {w w':World} {B size n:Nat} {A:Option Addr} {xs:List Value} (h:Rd w B size A n xs) (hk:∀ p:Addr,p.block<B→w'.cell? p=w.cell? p):Rd w' B size A n xs:=
 ⟨h.1,fun hn=>by
   obtain⟨b,o,e,hb,hc⟩:=h.2 hn;exact⟨b,o,e,hb,fun j u hu=>(hk _ hb).trans (hc j u hu)⟩⟩
theorem Rd.below {w w':World} {B size n:Nat} {A:Option Addr} {xs:List Value} (h:Rd w B size A n xs) (hb:Below B w w'):Rd w' B size A n xs:=h.keep fun _ hp=>hb.cell hp
theorem Rd.more {w:World} {B B' size n:Nat} {A:Option Addr} {xs:List Value} (h:Rd w B size A n xs) (hB:B≤B'):Rd w B' size A n xs:=
 ⟨h.1,fun hn=>by
   obtain⟨b,o,e,hb,hc⟩:=h.2 hn;exact⟨b,o,e,by omega,hc⟩⟩
theorem add_plain (b o j:Nat):(⟨b,o,none⟩:Addr).add j=⟨b,o+j,none⟩:=by unfold Addr.add;split<;>simp_all
section
variable {P:Program} (w:World)
theorem Dzf (base:Nat) (t ty e:TypeId) (i:TypeInfo) (z:Value) (size bytes:Nat) (ht:P.underlying t=some (.slice e)) (hi:P.info? e=some i) (hz:i.zero=some z)
  (hsize:i.size=size) (hby:i.bytes=bytes) (hzs:z.cells.size=size) (hsz:0<size)
  (v:Value) (n:Nat) (xs:List Value) (hown:w.ownsRow base e size v n xs)
  (B:Nat) (A:Option Addr) (m c:Nat) (news:List Value) (hr:Rd w B size A m news) (h1:∀ u∈news,u.oneCell'=true)
  (h63:n+m≤maxLen) (hbytes:(n+m)*bytes≤140737488355328) (hbase:base≤w.heap.size):
  ∃ v' w',(Builtin.append_ #[t,t] ty #[v, .slice A m c]).run P w= .ok v' w'∧w'.ownsRow base e size v' (n+m) (xs++news)∧w.grownBy w' v.ownBlock∧
   (v'.ownBlock=v.ownBlock∨v'.ownBlock=some w.heap.size):=by
 rcases Nat.eq_zero_or_pos m with h0|h0
 ·subst h0
  have hn:news=[]:=List.eq_nil_of_length_eq_zero (by simpa using hr.1);subst hn;cases A with
  | none=>
    refine⟨v,w,?_,by simpa using hown,World.grownBy.refl w _, .inl rfl⟩;rcases hown.2 with⟨rfl,rfl⟩|⟨g,cap,cur,rfl,_,_,hnc,_⟩
    ·simp[Builtin.append_,run_underlying ht,sizeOf,typeInfo,hi,Builtin.lenOf,Builtin.firstCells]
    ·simp[Builtin.append_,run_underlying ht,sizeOf,typeInfo,hi,Builtin.lenOf,Builtin.firstCells,hnc,storeCells]
  | some ad=>
    obtain⟨v',w',hrun,h2,h3,_,h5⟩:=run_append_own_at (P:=P) w base t ty e i z size bytes ht hi hz hsize hby hzs hsz v n xs hown ad 0 c [] (by simp) (by simp) (by simp) h63 hbytes hbase;exact⟨v',w',hrun,h2,h3,h5⟩
 ·obtain⟨b,o,rfl,_,hc⟩:=hr.2 h0
  obtain⟨v',w',hrun,h2,h3,_,h5⟩:=run_append_own_at (P:=P) w base t ty e i z size bytes ht hi hz hsize hby hzs hsz v n xs hown ⟨b,o,none⟩ m c news hr.1 (fun j u hj=>by rw[add_plain];exact hc j u hj) h1 h63 hbytes hbase;exact⟨v',w',hrun,h2,h3,h5⟩
theorem Azo {ops:Array Oper} {rest:List Oper} {o:Oper} {a:Act} {Q:Exit→Act→World→Prop} (hgd:o.guard=none) (s x:Operand) (t:TypeId)
  (ho:o.op= .call { callee:= .builtin .append,args:= #[s,x],argTypes:= #[t,t] })
  (base:Nat) (e:TypeId) (i:TypeInfo) (z:Value) (size bytes:Nat) (ht:P.underlying t=some (.slice e)) (hi:P.info? e=some i) (hz:i.zero=some z)
  (hsize:i.size=size) (hby:i.bytes=bytes) (hzs:z.cells.size=size) (hsz:0<size)
  (v:Value) (n:Nat) (xs:List Value) (hs:a.eval s=v) (hown:w.ownsRow base e size v n xs)
  (B:Nat) (A:Option Addr) (m c:Nat) (news:List Value) (hx:a.eval x= .slice A m c) (hr:Rd w B size A m news) (h1:∀ u∈news,u.oneCell'=true)
  (h63:n+m≤maxLen) (hbytes:(n+m)*bytes≤140737488355328) (hbase:base≤w.heap.size)
  (h:∀ v' w',w'.ownsRow base e size v' (n+m) (xs++news)→w.grownBy w' v.ownBlock→(v'.ownBlock=v.ownBlock∨v'.ownBlock=some w.heap.size)→wpList P ops Q rest (a.put o.dst v') w'):wpList P ops Q (o::rest) a w:=
 wpList_plain hgd fun K hK=>by
  obtain⟨v',w',hrun,h2,h3,h4⟩:=Dzf (P:=P) w base t o.type e i z size bytes ht hi hz hsize hby hzs hsz v n xs hown B A m c news hr h1 h63 hbytes hbase;unfold Oper.wp execOp;simp only[ho,resolve,invoke,builtin,Sem.run_bind,Sem.run_pure,Result.andThen_ok,List.map_toArray,List.map_cons,List.map_nil,hs,hx,hrun];exact hK _ _ (h v' w' h2 h3 h4)
end
theorem Az1 {w:World} {base:Nat} {e:TypeId} {size:Nat} {v:Value} {n:Nat} {xs:List Value} (h:w.ownsRow base e size v n xs):∃ A c,v= .slice A n c:=by
 rcases h.2 with⟨rfl,rfl⟩|⟨g,cap,cur,rfl,_⟩
 ·exact⟨none,0,rfl⟩
 ·exact⟨_,_,rfl⟩
theorem own_base {w:World} {base B:Nat} {e:TypeId} {size:Nat} {v:Value} {n:Nat} {xs:List Value} (h:w.ownsRow base e size v n xs) (hB:B≤base):w.ownsRow B e size v n xs:=by
 refine⟨h.1,?_⟩;rcases h.2 with h2|⟨g,cap,cur,hv,hg,r⟩
 ·exact .inl h2
 ·exact .inr ⟨g,cap,cur,hv,Nat.le_trans hB hg,r⟩
theorem own_below {w w':World} {base:Nat} {e:TypeId} {size:Nat} {v:Value} {n:Nat} {xs:List Value} (h:w.ownsRow base e size v n xs) (hb:Below w.heap.size w w'):w'.ownsRow base e size v n xs:=
 h.kept (row:=none) ⟨hb.os,hb.tape,hb.output,hb.size,fun k hk _=>hb.block k hk⟩ (by cases hv:v.ownBlock<;>simp)
def Azc (l:List Ins):List Value:=l.flatMap fun i=>[.int .i64 i.op, .int .i64 i.a, .int .i64 i.b, .int .i64 i.c]
def intCells (l:List Int):List Value:=l.map (Value.int .i64)
theorem Czn (l:List Ins):(Azc l).length=l.length*4:=by
 induction l with
 | nil=>rfl
 | cons i r ih=>simp[Azc] at ih ⊢;omega
theorem Gze (l:List Ins):∀ (k:Nat) (h:k<l.length),(Azc l)[k*4]? =some (.int .i64 l[k].op)∧(Azc l)[k*4+1]? =some (.int .i64 l[k].a)∧(Azc l)[k*4+2]? =some (.int .i64 l[k].b)∧(Azc l)[k*4+3]? =some (.int .i64 l[k].c):=by
 induction l with
 | nil=>intro k h;cases h
 | cons i r ih=>
   intro k h;have hc:Azc (i::r)=[.int .i64 i.op, .int .i64 i.a, .int .i64 i.b, .int .i64 i.c]++Azc r:=by simp[Azc]
   rw[hc];cases k with
   | zero=>exact⟨rfl,rfl,rfl,rfl⟩
   | succ k=>
     have h4:∀ j,([.int .i64 i.op, .int .i64 i.a, .int .i64 i.b, .int .i64 i.c]++Azc r:List Value)[(k+1)*4+j]? =(Azc r)[k*4+j]? :=fun j=>by
      rw[List.getElem?_append_right (by simp;omega)]
      congr 1
      simp;omega
     have:=ih k (by simpa using h);exact⟨(h4 0).trans this.1,(h4 1).trans this.2.1,(h4 2).trans this.2.2.1,(h4 3).trans this.2.2.2⟩
theorem RdI.rd {w:World} {B:Nat} {A:Option Addr} {l:List Ins} (h:RdI w B A l):Rd w B 4 A l.length (Azc l):=
 ⟨Czn l,fun hn=>by
   obtain⟨b,o,e,hb,hc⟩:=h hn;refine⟨b,o,e,hb,fun j u hu=>?_⟩;have hj:j<l.length*4:=by rw[←Czn];exact(List.getElem?_eq_some_iff.1 hu).1
   have hm:∃ q,q<l.length∧(j=q*4∨j=q*4+1∨j=q*4+2∨j=q*4+3):=⟨j / 4,by omega,by omega⟩;obtain⟨q,hq,hm⟩:=hm;obtain⟨x0,x1,x2,x3⟩:=Gze l q hq;obtain⟨c0,c1,c2,c3⟩:=hc q hq;rcases hm with h|h|h|h<;>subst h
   ·rw[x0] at hu;cases hu;exact c0
   ·rw[x1] at hu;cases hu;exact c1
   ·rw[x2] at hu;cases hu;exact c2
   ·rw[x3] at hu;cases hu;exact c3⟩
theorem Gzf (l:List Int) (k:Nat) (h:k<l.length):(intCells l)[k]? =some (.int .i64 l[k]):=by simp[intCells,h]
theorem RdN.rd {w:World} {B:Nat} {A:Option Addr} {l:List Int} (h:RdN w B A l):Rd w B 1 A l.length (intCells l):=
 ⟨by simp[intCells],fun hn=>by
   obtain⟨b,o,e,hb,hc⟩:=h hn;refine⟨b,o,e,hb,fun j u hu=>?_⟩;have hj:j<l.length:=by simpa [intCells] using(List.getElem?_eq_some_iff.1 hu).1
   rw[Gzf l j hj] at hu;cases hu;exact hc j hj⟩
theorem Hzs (l:List Ins):∀ u∈Azc l,u.oneCell'=true:=by
 intro u hu;simp only[Azc,List.mem_flatMap] at hu;obtain⟨i,_,hu⟩:=hu;simp at hu;rcases hu with h|h|h|h<;>subst h<;>rfl
theorem Dz3 (l:List Int):∀ u∈intCells l,u.oneCell'=true:=by
 intro u hu;simp only[intCells,List.mem_map] at hu;obtain⟨i,_,rfl⟩:=hu;rfl
theorem Rd.of_own {w:World} {base:Nat} {e:TypeId} {size n c:Nat} {A:Option Addr} {xs:List Value} (h:w.ownsRow base e size (.slice A n c) n xs):Rd w w.heap.size size A n xs:=by
 refine⟨h.1,fun hn=>?_⟩;obtain⟨g,cap,hv,_,hlt⟩:=h.form hn;have hA:A=some ⟨g,0,none⟩:=by injection hv
 subst hA;refine⟨g,0,rfl,hlt,fun j u hu=>?_⟩;have:=h.cells (g:=g) rfl j u hu
 rwa [add_plain] at this
theorem RdI.of {w:World} {B:Nat} {A:Option Addr} {l:List Ins} (h:Rd w B 4 A l.length (Azc l)):RdI w B A l:=fun hl=>by
 obtain⟨b,o,e,hb,hc⟩:=h.2 hl;refine⟨b,o,e,hb,fun k hk=>?_⟩;obtain⟨x0,x1,x2,x3⟩:=Gze l k hk;exact⟨hc _ _ x0,hc _ _ x1,hc _ _ x2,hc _ _ x3⟩
theorem RdN.of {w:World} {B:Nat} {A:Option Addr} {l:List Int} (h:Rd w B 1 A l.length (intCells l)):RdN w B A l:=fun hl=>by
 obtain⟨b,o,e,hb,hc⟩:=h.2 hl;exact⟨b,o,e,hb,fun k hk=>hc _ _ (Gzf l k hk)⟩
def Blk (w:World) (g:Nat) (t:TypeId) (cs:Array Value):Prop:=w.heap[g]? =some (.cells cs t (0,0))
section
variable {w w':World} {g:Nat} {t:TypeId} {cs:Array Value}
theorem Blk.lt (h:Blk w g t cs):g<w.heap.size:=by
 rcases Nat.lt_or_ge g w.heap.size with hlt|hge
 ·exact hlt
 ·unfold Blk at h;rw[Array.getElem?_eq_none hge] at h;cases h
theorem Blk.cell (h:Blk w g t cs) (i:Nat):w.cell? ⟨g,i,none⟩=cs[i]? :=cell_of_row w g i cs t (0,0) h
theorem Blk.frozen (h:Blk w g t cs) (i:Nat):w.frozen? ⟨g,i,none⟩=false:=by
 unfold Blk at h;simp[World.frozen?,h]
theorem Blk.new (w:World) (t:TypeId) (cs:Array Value):Blk (w.alloc (.cells cs t)) w.heap.size t cs:=heap_alloc_new w _
theorem Blk.drew (h:Blk w g t cs):Blk w.drew g t cs:=h
theorem Blk.drewN (h:Blk w g t cs) (n:Nat):Blk (w.drewN n) g t cs:=h
theorem Blk.alloc (h:Blk w g t cs) (o:Obj):Blk (w.alloc o) g t cs:=(Below.heap_alloc w o g h.lt).trans h
theorem Blk.set_ (h:Blk w g t cs) (i:Nat) (u:Value):Blk (w.setCell ⟨g,i,none⟩ u) g t (cs.setIfInBounds i u):=by
 unfold Blk at h ⊢;simp[World.setCell,Array.getElem?_modify,h]
theorem Blk.far (h:Blk w g t cs) {p:Addr} (hp:g≠p.block) (u:Value):Blk (w.setCell p u) g t cs:=(Below.heap_setCell w p u g hp).trans h
theorem Blk.below {B:Nat} (h:Blk w g t cs) (hb:Below B w w') (hg:g<B):Blk w' g t cs:=(hb.block g hg).trans h
theorem Blk.grown {row:Option Nat} (h:Blk w g t cs) (hb:w.grownBy w' row) (hg:some g≠row):Blk w' g t cs:=(hb.block g h.lt hg).trans h
theorem Blk.ne_ {g':Nat} {t':TypeId} {cs':Array Value} (h:Blk w g t cs) (h':Blk w g' t' cs') (hne:t≠t'):g≠g':=by
 rintro rfl;unfold Blk at h h';rw[h] at h';injection h' with h'
 injection h' with _ ht
 exact hne ht
theorem Aza {base:Nat} {e:TypeId} {size n:Nat} {v:Value} {xs:List Value} (h:w.ownsRow base e size v n xs) (hg:Blk w g t cs) (hne:e≠t):v.ownBlock≠some g:=by
 rcases h.2 with⟨rfl,_⟩|⟨g',cap,cur,rfl,_,hh,_⟩
 ·simp[Value.ownBlock]
 ·intro he
  have:g'=g:=by simpa [Value.ownBlock] using he
  subst this;exact Blk.ne_ (t:=e) hh hg hne rfl
theorem Blk.rd (h:Blk w g t cs) (n size:Nat) (hn:n*size≤cs.size):Rd w w.heap.size size (some ⟨g,0,none⟩) n (cs.toList.take (n*size)):=by
 refine⟨by rw[List.length_take,Array.length_toList,Nat.min_eq_left hn],fun _=>⟨g,0,rfl,h.lt,fun j u hu=>?_⟩⟩;rw[Nat.zero_add,h.cell];rw[List.getElem?_take] at hu;split at hu
 ·simpa using hu
 ·cases hu
end
theorem Blk.new' {w:World} {n:Nat} {t:TypeId} {cs:Array Value} (h:n=w.heap.size):Blk (w.alloc (.cells cs t)) n t cs:=by subst h;exact Blk.new w t cs
def lay5 (w:World) (b:Nat) (u0 u1 u2 u3 u4:Value):World:=((((w.setCell ⟨b,0,none⟩ u0).setCell ⟨b,1,none⟩ u1).setCell ⟨b,2,none⟩ u2).setCell ⟨b,3,none⟩ u3).setCell ⟨b,4,none⟩ u4
theorem Pz9 (w:World) (b:Nat) (u0 u1 u2 u3 u4:Value) (q:Nat) (h:q≠b):(lay5 w b u0 u1 u2 u3 u4).heap[q]? =w.heap[q]? :=by
 unfold lay5;rw[Below.heap_setCell _ _ _ _ h,Below.heap_setCell _ _ _ _ h,Below.heap_setCell _ _ _ _ h,Below.heap_setCell _ _ _ _ h,Below.heap_setCell _ _ _ _ h]
theorem Fz3 {B:Nat} {a w:World} (h:Below B a w) (u0 u1 u2 u3 u4:Value):Below B a (lay5 w B u0 u1 u2 u3 u4):=by
 unfold lay5;have h0:=h.setCell (p:=⟨B,0,none⟩) (Nat.le_refl _) u0;have h1:=h0.setCell (p:=⟨B,1,none⟩) (Nat.le_refl _) u1;have h2:=h1.setCell (p:=⟨B,2,none⟩) (Nat.le_refl _) u2;have h3:=h2.setCell (p:=⟨B,3,none⟩) (Nat.le_refl _) u3;exact h3.setCell (p:=⟨B,4,none⟩) (Nat.le_refl _) u4
theorem Bzg (w:World) (p:Addr) (u:Value):w.grownBy (w.setCell p u) (some p.block):=
 ⟨rfl,rfl,rfl,by simp,fun q _ hne=>Below.heap_setCell w p u q (fun e=>hne (by rw[e]))⟩
theorem Bz8 (w:World) (b:Nat) (u0 u1 u2 u3 u4:Value):w.grownBy (lay5 w b u0 u1 u2 u3 u4) (some b):=by
 unfold lay5;exact((((Bzg w ⟨b,0,none⟩ u0).trans (Bzg _ ⟨b,1,none⟩ u1)).trans (Bzg _ ⟨b,2,none⟩ u2)).trans (Bzg _ ⟨b,3,none⟩ u3)).trans (Bzg _ ⟨b,4,none⟩ u4)
theorem Blk.lay5 {w:World} {b:Nat} {t:TypeId} {cs:Array Value} (h:Blk w b t cs) (hs:cs.size=5) (u0 u1 u2 u3 u4:Value):Blk (lay5 w b u0 u1 u2 u3 u4) b t #[u0,u1,u2,u3,u4]:=by
 have e:((((cs.setIfInBounds 0 u0).setIfInBounds 1 u1).setIfInBounds 2 u2).setIfInBounds 3 u3).setIfInBounds 4 u4= #[u0,u1,u2,u3,u4]:=by
  match cs,hs with
  | ⟨[x0,x1,x2,x3,x4]⟩,_=>rfl
 have h1:=h.set_ 0 u0;have h2:=h1.set_ 1 u1;have h3:=h2.set_ 2 u2;have h4:=h3.set_ 3 u3;have h5:=h4.set_ 4 u4;rw[e] at h5;unfold Go.Proofs.YtdjamdbamkhblacGreatDoor.lay5;exact h5
theorem Hz1 {P:Program} (w:World) (t e:TypeId) (z:Value) (size bytes n:Nat) (ht:P.underlying t=some (.slice e)) (hinfo:(P.info? e).map (fun i=>(i.zero,i.size,i.bytes))=some (some z,size,bytes))
  (hb:bytes*n≤281474976710656) (hn:n≤9223372036854775807):
  (Instr.makeSlice t (.int .i64 (n:Int)) (.int .i64 (n:Int))).run P w= .ok (.slice (some ⟨w.heap.size,0,none⟩) n n) (w.alloc (.cells (madeCells z.cells (n*size)) e)):=by
 obtain⟨i,hi,hz,hs,hby⟩:=info_parts hinfo;have h1:(i.bytes:Int)*(n:Int)≤281474976710656:=by
  rw[hby];have:((bytes*n:Nat):Int)≤((281474976710656:Nat):Int):=Int.ofNat_le.2 hb;rw[Int.natCast_mul] at this;exact this
 have h2:=run_make w t e i z ht hi hz .i64 .i64 (n:Int) (n:Int) (by omega) (by omega) h1 (by omega);rw[hs] at h2;exact h2
theorem Blk.a2 {w:World} {q:Nat} {t:TypeId} {cs:Array Value} (h:Blk w q t cs):w.cell? ⟨q,0,none⟩=cs[0]? ∧w.cell? ⟨q,1,none⟩=cs[1]? ∧w.frozen? ⟨q,0,none⟩=false∧w.frozen? ⟨q,1,none⟩=false∧q<w.heap.size:=⟨h.cell 0,h.cell 1,h.frozen 0,h.frozen 1,h.lt⟩
theorem Blk.a3 {w:World} {q:Nat} {t:TypeId} {cs:Array Value} (h:Blk w q t cs):w.cell? ⟨q,0,none⟩=cs[0]? ∧w.cell? ⟨q,1,none⟩=cs[1]? ∧w.cell? ⟨q,2,none⟩=cs[2]? ∧w.frozen? ⟨q,0,none⟩=false∧w.frozen? ⟨q,1,none⟩=false∧w.frozen? ⟨q,2,none⟩=false∧q<w.heap.size:=⟨h.cell 0,h.cell 1,h.cell 2,h.frozen 0,h.frozen 1,h.frozen 2,h.lt⟩
theorem Blk.a4 {w:World} {q:Nat} {t:TypeId} {cs:Array Value} (h:Blk w q t cs):w.cell? ⟨q,0,none⟩=cs[0]? ∧w.cell? ⟨q,1,none⟩=cs[1]? ∧w.cell? ⟨q,2,none⟩=cs[2]? ∧w.cell? ⟨q,3,none⟩=cs[3]? ∧w.frozen? ⟨q,0,none⟩=false∧w.frozen? ⟨q,1,none⟩=false∧w.frozen? ⟨q,2,none⟩=false∧w.frozen? ⟨q,3,none⟩=false∧q<w.heap.size:=⟨h.cell 0,h.cell 1,h.cell 2,h.cell 3,h.frozen 0,h.frozen 1,h.frozen 2,h.frozen 3,h.lt⟩
theorem Blk.a5 {w:World} {q:Nat} {t:TypeId} {cs:Array Value} (h:Blk w q t cs):w.cell? ⟨q,0,none⟩=cs[0]? ∧w.cell? ⟨q,1,none⟩=cs[1]? ∧w.cell? ⟨q,2,none⟩=cs[2]? ∧w.cell? ⟨q,3,none⟩=cs[3]? ∧w.cell? ⟨q,4,none⟩=cs[4]? ∧w.frozen? ⟨q,0,none⟩=false∧w.frozen? ⟨q,1,none⟩=false∧w.frozen? ⟨q,2,none⟩=false∧w.frozen? ⟨q,3,none⟩=false∧w.frozen? ⟨q,4,none⟩=false∧q<w.heap.size:=⟨h.cell 0,h.cell 1,h.cell 2,h.cell 3,h.cell 4,h.frozen 0,h.frozen 1,h.frozen 2,h.frozen 3,h.frozen 4,h.lt⟩
theorem Blk.a11 {w:World} {q:Nat} {t:TypeId} {cs:Array Value} (h:Blk w q t cs):w.cell? ⟨q,0,none⟩=cs[0]? ∧w.cell? ⟨q,1,none⟩=cs[1]? ∧w.cell? ⟨q,2,none⟩=cs[2]? ∧w.cell? ⟨q,3,none⟩=cs[3]? ∧w.cell? ⟨q,4,none⟩=cs[4]? ∧w.cell? ⟨q,5,none⟩=cs[5]? ∧w.cell? ⟨q,6,none⟩=cs[6]? ∧w.cell? ⟨q,7,none⟩=cs[7]? ∧w.cell? ⟨q,8,none⟩=cs[8]? ∧w.cell? ⟨q,9,none⟩=cs[9]? ∧w.cell? ⟨q,10,none⟩=cs[10]? ∧w.frozen? ⟨q,0,none⟩=false∧w.frozen? ⟨q,1,none⟩=false∧w.frozen? ⟨q,2,none⟩=false∧w.frozen? ⟨q,3,none⟩=false∧w.frozen? ⟨q,4,none⟩=false∧w.frozen? ⟨q,5,none⟩=false∧w.frozen? ⟨q,6,none⟩=false∧w.frozen? ⟨q,7,none⟩=false∧w.frozen? ⟨q,8,none⟩=false∧w.frozen? ⟨q,9,none⟩=false∧w.frozen? ⟨q,10,none⟩=false∧q<w.heap.size:=⟨h.cell 0,h.cell 1,h.cell 2,h.cell 3,h.cell 4,h.cell 5,h.cell 6,h.cell 7,h.cell 8,h.cell 9,h.cell 10,h.frozen 0,h.frozen 1,h.frozen 2,h.frozen 3,h.frozen 4,h.frozen 5,h.frozen 6,h.frozen 7,h.frozen 8,h.frozen 9,h.frozen 10,h.lt⟩
structure Tch (t:TypeId) (w w':World):Prop where
 os:w'.os=w.os
 tape:w'.tape=w.tape
 output:w'.output=w.output
 size:w.heap.size≤w'.heap.size
 block:∀ q,q<w.heap.size→(∀ cs fr,w.heap[q]? ≠some (.cells cs t fr))→w'.heap[q]? =w.heap[q]?
theorem Tch.of_below {t:TypeId} {w w':World} (h:Below w.heap.size w w'):Tch t w w':=⟨h.os,h.tape,h.output,h.size,fun q hq _=>h.block q hq⟩
theorem Tch.of_grown {t:TypeId} {w w':World} {base size n:Nat} {v:Value} {xs:List Value} (h:w.ownsRow base t size v n xs) (hg:w.grownBy w' v.ownBlock):Tch t w w':=
 ⟨hg.os,hg.tape,hg.output,hg.size,fun q hq hne=>hg.block q hq fun e=>by
   rcases h.2 with⟨rfl,_⟩|⟨g',cap,cur,rfl,_,hh,_⟩
   ·cases e
   ·have:q=g':=by simpa [Value.ownBlock] using e
    subst this;exact hne _ _ hh⟩
theorem Tch.of_set {t:TypeId} {w:World} {p:Addr} {cs:Array Value} (h:Blk w p.block t cs) (u:Value):Tch t w (w.setCell p u):=
 ⟨rfl,rfl,rfl,by simp,fun q _ hne=>Below.heap_setCell w p u q fun e=>by subst e;exact hne _ _ h⟩
theorem Blk.tch {w w':World} {g:Nat} {t e:TypeId} {cs:Array Value} (h:Blk w g e cs) (ht:Tch t w w') (hne:e≠t):Blk w' g e cs:=
 (ht.block g h.lt fun cs' fr hc=>by
   unfold Blk at h;rw[h] at hc;injection hc with hc
   injection hc with _ hc
   exact hne hc).trans h
theorem Az4 {w w':World} {t e:TypeId} {base size n:Nat} {v:Value} {xs:List Value} (h:w.ownsRow base e size v n xs) (ht:Tch t w w') (hne:e≠t):w'.ownsRow base e size v n xs:=by
 refine⟨h.1,?_⟩;rcases h.2 with h2|⟨g,cap,cur,hv,hb,hg,r⟩
 ·exact .inl h2
 ·exact .inr ⟨g,cap,cur,hv,hb,Blk.tch (cs:=cur) hg ht hne,r⟩
open Go.RowKit Go.WideShapes Go.ChangeShapes Go.ChangeAt Go.Deep
theorem own:ownKnob Tryz.prog.godebug=none:=by kernel_rfl
theorem laidOut:laidOutB Tryz.prog=true:=by kernel_rfl
section
variable {H:Type} {enc:TypeId × Value→H} {P:Program}
theorem Ezs (hl:laidOutB P=true) {W W':World} {sp':Nat→Bool}:∀ {ts:List TypeId} {vs:List Value} {ds:List (DataW H)} {ps:List MemPlace},
  ts.all (fun t=>P.readableRec t && decide (t<P.types.size))=true→DataW.TrodAll enc P W 0 (fun _=>true) true ts vs ds ps→(∀ p∈ps,W.sameAt W' p)→(∀ p∈ps,sp' p.block=true)→DataW.TrodAll enc P W' 0 sp' true ts vs ds ps
 | [],vs,ds,ps,_,h,_,_=>by
   obtain⟨rfl,rfl,rfl⟩:=trodAll_nil h;exact trodAll_mk0
 | t::ts,vs,ds,ps,ha,h,hs,hsp=>by
   obtain⟨v,vs',d,ds',p,q,rfl,rfl,rfl,h1,h2⟩:=trodAll_cons h;simp only[List.all_cons,Bool.and_eq_true,decide_eq_true_eq] at ha;exact⟨p,q,WideElems.Trod_stays hl ha.1.1 ha.1.2 h1 (fun x hx=>hs x (List.mem_append_left _ hx)) (fun x hx=>hsp x (List.mem_append_left _ hx)),
    Ezs hl ha.2 h2 (fun x hx=>hs x (List.mem_append_right _ hx)) (fun x hx=>hsp x (List.mem_append_right _ hx)),rfl⟩
theorem Tz3 {f:Func} {s:ChangeSpec} {apart fresh handsOn:Bool} {W W':World} {args:Array Value} {ds gs:List (DataW H)} {before:List MemPlace} {bt:TypeId}
  (hW:DataW.Whole enc P f.params.toList s.vars apart W args.toList ds gs before) (hv:s.vars=[]) (hr:f.resultTypes= #[bt]) (hbt:P.underlying bt=some .bool) (hl:laidOutB P=true)
  (hall:f.params.toList.all (fun t=>P.readableRec t && decide (t<P.types.size))=true) (hs:s.fn H ds= { results:=[.lit (.bool true)],args:=ds }) (hb:Below W.heap.size W W'):
  s.post enc P f apart fresh handsOn false W args (.bool true) W':=by
 have hW':=hW;have hlt:∀ p∈before,p.block<W.heap.size:=fun p hp=>hW.lt p hp
 obtain⟨p,q,hA0,hV,rfl,hfz,hnd⟩:=hW;rw[hv] at hV;obtain⟨rfl,rfl⟩:=trodVars_none hV;have hA:DataW.TrodAll enc P W 0 (fun _=>true) true f.params.toList args.toList ds p:=hA0;rw[List.append_nil] at hW' hlt;refine⟨ds,[],p,[],p,[],hW',?_,?_,?_,?_,fun h=>by cases h⟩
 ·rw[List.append_nil,hs,hr]
  exact trodAll_mk1 (shut_bool hbt true)
 ·rw[List.append_nil,hs]
  exact Ezs hl hall hA (fun x hx=>hb.same (hlt x hx)) (fun x hx=>by simpa using hlt x hx)
 ·rw[hv,List.append_nil,hs]
  exact rfl
 ·exact World.keptBut_mono (fun x hx=>⟨hx,Or.inr (Or.inl hx)⟩) (hb.frame (· ∈p))
theorem Hzk {w:World} {base:Nat} {sp:Nat→Bool} {held:Bool} {fuel:Nat} {t e:TypeId} {n:Nat} {cs:List Value} {zs:List (List UInt8)} {p:List MemPlace}
  (ht:P.underlying t=some (.array n e)) (he:P.underlying e=some .string) (hce:P.cellsOf e=1) (hct:P.cellsOf t=n)
  (h:DataW.trod enc P w base sp held fuel t cs=some (.agg (zs.map fun z=> .lit (.string z)),p)):cs=zs.map fun z=>Value.string ⟨z.toArray⟩:=by
 cases fuel with
 | zero=>simp[DataW.trod] at h
 | succ fuel=>
   simp only[DataW.trod,ht,hce,hct,Nat.mul_one] at h;split at h
   ·rename_i hl
    obtain⟨xs,hm,hx⟩:=Option.map_eq_some_iff.1 h;have hxs:xs.map (·.1)=zs.map fun z=>(DataW.lit (.string z):DataW H):=by
     have:=congrArg Prod.fst hx
     simpa using this
    have hxl:xs.length=n:=by simpa using Lib.mapM_length hm
    have hzl:zs.length=n:=by
     have:=congrArg List.length hxs;simp at this;omega
    apply List.ext_getElem?;intro i;by_cases hi:i<n
    ·obtain⟨b,hb,hf⟩:=Lib.mapM_at hm i i (by simp[hi])
     obtain⟨z,hc,rfl,_⟩:=DataW.trod_string he hf;have h1:cs[i]? =some (.string z):=by
      have:=congrArg (·[0]?) hc
      simpa [List.getElem?_take,List.getElem?_drop] using this
     have h2:(xs.map (·.1))[i]? =some (DataW.lit (.string z.data.toList):DataW H):=by simp[hb]
     rw[hxs] at h2;simp only[List.getElem?_map,Option.map_eq_some_iff,DataW.lit.injEq,Lit.string.injEq] at h2;obtain⟨z',hz',hz⟩:=h2;subst hz;simp[h1,hz']
    ·rw[List.getElem?_eq_none (by omega),List.getElem?_eq_none (by simp;omega)]
   ·cases h
theorem Jza {W:World} {name:String} {zs:List (List UInt8)} {rest:List (String × DataW Unit)} {g:Nat} {t e:TypeId} {n:Nat}
  (hg:P.globalNamed name=some g) (hty:(P.globals[g]?).map (·.type)=some t) (ht:P.underlying t=some (.array n e)) (he:P.underlying e=some .string) (hce:P.cellsOf e=1) (hct:P.cellsOf t=n)
  (h:laidMet P ((name, .agg (zs.map fun z=> .lit (.string z)))::rest) W) (i:Nat) (z:List UInt8) (hi:zs[i]? =some z):W.cell? ⟨g,i,none⟩=some (.string ⟨z.toArray⟩):=by
 obtain⟨ps,⟨g',t',cs,fuel,p,q,hg',ht',hvar,hd,_,_⟩,_⟩:=h;obtain rfl:=Option.some.inj (hg.symm.trans hg');obtain rfl:=Option.some.inj (hty.symm.trans ht');have hv:W.var? P name=some (zs.map fun z=>Value.string ⟨z.toArray⟩).toArray:=by rw[hvar, ←Hzk ht he hce hct hd]
 have:=World.var?_cell hg hv i
 simpa [hi] using this
theorem Izg {W:World} {base:Nat} {spare:Nat→Bool} {held:Bool} {t e:TypeId} {v:Value} {d:DataW H} {p:List MemPlace} {r:Reach} {b0:Nat}
  (ht:P.underlying t=some (.slice e)) (hv:Value.okWide P W r b0 t v) (h:DataW.Trod enc P W base spare held t v d p):∃ fuel,DataW.trod enc P W base spare held fuel t [v]=some (d,p):=by
 obtain⟨A,n,c,rfl⟩:=okWide_slice ht hv;exact h
theorem Jzs {α:Type} [Inhabited α] {n:Nat} {p:Nat→α→Prop} (h:∀ i,i<n→∃ x,p i x):∃ l:List α,l.length=n∧∀ i (hi:i<l.length),p i l[i]:=by
 obtain⟨f,hf⟩:=choose_lt h;exact⟨(List.range n).map f,by simp,fun i hi=>by simpa using hf i (by simpa using hi)⟩
end
structure Mod where
 name:ByteArray
 code:List Ins
 data:List Int
end Go.Proofs.YtdjamdbamkhblacGreatDoor
