/- Small words for memory and plain data that the walks of this seat use: no condition. What every law's proof of this seat shares: from a walk that leaves old memory as it was to the row's last step; arguments opened. No condition. The walk of the reference's In. The walks of code.Check and of its reference: what they return, for every code. -/
import Derived.Test.YtdjamdbamkhblabGreatDoorRows
import Derived.WalkKit
import Derived.WalkSpells
import Derived.WalkLawsBesides
import Derived.Lib.Hide
import Derived.Deep.LoopGhost
import Derived.LoopN
import Derived.Handy
import Derived.PlainAid
import Derived.Deep.RegionHeld3
import Derived.BigQuiet
import Derived.Deep.QuietTactic
import Derived.Deep.DeepCutAuto
import Derived.Deep.Slices
import Derived.Deep.Fields
import Derived.Deep.Draws
import Derived.Deep.AppendLies
import Derived.Maps.AppendAt
import Derived.Laws.OwnMore
import Derived.Laws.BitsAllLaws
import Derived.Laws.BitsLemmas
import Derived.ChangeSame
import Derived.ProofKit
import Derived.OpenShut
import Derived.Lib.SmallJoins
import Derived.Deep.DeepHandedRow
import Derived.Lib.LaidTab
namespace Go.Proofs.YtdjamdbamkhblabGreatDoor
open Go.RowKit
theorem bcell {W w1:World} (hb:Below W.heap.size W w1):(∀ b o,b<W.heap.size→w1.cell? ⟨b,o,none⟩=W.cell? ⟨b,o,none⟩)∧(∀ b o,b<W.heap.size→w1.frozen? ⟨b,o,none⟩=W.frozen? ⟨b,o,none⟩):=
 ⟨fun b o h=>hb.cell (p:=⟨b,o,none⟩) h,fun b o h=>hb.frozen (p:=⟨b,o,none⟩) h⟩
theorem Below.drewN' {B:Nat} {a w:World} (h:Below B a w) (n:Nat):Below B a (w.drewN n):=⟨h.os,h.tape,h.output,h.size,h.block⟩
theorem ret_int {k:IntKind} {a b:Int} (h:a=b):Ending.returned (.int k a)= .returned (.int k b):=by rw[h]
theorem ret_bool {a b:Bool} (h:a=b):Ending.returned (.bool a)= .returned (.bool b):=by rw[h]
theorem quiet_left {P:Program} {f:FuncId} {args:Array Value} {w:World} {n:Nat} {v:Value}
  (h:Calls P f args (w.drewN n) fun e w'=>e= .returned v∧w.drewN n=w'):Calls P f args (w.drewN n) fun e w''=>e= .returned v∧∃ m,w''=w.drewN m:=
 h.mono fun _ _ ⟨he,hm⟩=>⟨he,n,hm.symm⟩
def Cnt (n:Nat) (i:Value) (p:Nat→Prop):Prop:=∃ k:Nat,k≤n∧i= .int .i64 k∧p k
structure Ins where
 op:Int
 a:Int
 b:Int
 c:Int
theorem Ins.ext' {i j:Ins} (h0:i.op=j.op) (h1:i.a=j.a) (h2:i.b=j.b) (h3:i.c=j.c):i=j:=by
 cases i;cases j;simp_all
instance :DecidableEq Ins:=fun i j=>
 if h:i.op=j.op∧i.a=j.a∧i.b=j.b∧i.c=j.c then .isTrue (Ins.ext' h.1 h.2.1 h.2.2.1 h.2.2.2)
 else .isFalse (fun e=>h (by subst e;exact⟨rfl,rfl,rfl,rfl⟩))
instance :Inhabited Ins:=⟨⟨0,0,0,0⟩⟩
def Ins.val (i:Ins):Value:= .agg #[.int .i64 i.op, .int .i64 i.a, .int .i64 i.b, .int .i64 i.c]
def RdI (w:World) (B:Nat) (A:Option Addr) (l:List Ins):Prop:=
 0<l.length→∃ b o,A=some ⟨b,o,none⟩∧b<B∧∀ k (h:k<l.length),
  w.cell? ⟨b,o+k*4,none⟩=some (.int .i64 l[k].op)∧w.cell? ⟨b,o+k*4+1,none⟩=some (.int .i64 l[k].a)∧
  w.cell? ⟨b,o+k*4+2,none⟩=some (.int .i64 l[k].b)∧w.cell? ⟨b,o+k*4+3,none⟩=some (.int .i64 l[k].c)
def RdN (w:World) (B:Nat) (A:Option Addr) (l:List Int):Prop:=
 0<l.length→∃ b o,A=some ⟨b,o,none⟩∧b<B∧∀ k (h:k<l.length),w.cell? ⟨b,o+k,none⟩=some (.int .i64 l[k])
theorem RdI.keep {w w':World} {B:Nat} {A:Option Addr} {l:List Ins} (h:RdI w B A l) (hk:∀ p:Addr,p.block<B→w'.cell? p=w.cell? p):RdI w' B A l:=fun hl=>by
 obtain⟨b,o,e,hb,hc⟩:=h hl;refine⟨b,o,e,hb,fun k hk'=>?_⟩;obtain⟨h0,h1,h2,h3⟩:=hc k hk';exact⟨(hk _ hb).trans h0,(hk _ hb).trans h1,(hk _ hb).trans h2,(hk _ hb).trans h3⟩
theorem RdI.below {w w':World} {B:Nat} {A:Option Addr} {l:List Ins} (h:RdI w B A l) (hb:Below B w w'):RdI w' B A l:=h.keep fun _ hp=>hb.cell hp
theorem RdI.more {w:World} {B B':Nat} {A:Option Addr} {l:List Ins} (h:RdI w B A l) (hB:B≤B'):RdI w B' A l:=fun hl=>by
 obtain⟨b,o,e,hb,hc⟩:=h hl;exact⟨b,o,e,by omega,hc⟩
theorem RdN.keep {w w':World} {B:Nat} {A:Option Addr} {l:List Int} (h:RdN w B A l) (hk:∀ p:Addr,p.block<B→w'.cell? p=w.cell? p):RdN w' B A l:=fun hl=>by
 obtain⟨b,o,e,hb,hc⟩:=h hl;exact⟨b,o,e,hb,fun k hk'=>(hk _ hb).trans (hc k hk')⟩
theorem RdN.below {w w':World} {B:Nat} {A:Option Addr} {l:List Int} (h:RdN w B A l) (hb:Below B w w'):RdN w' B A l:=h.keep fun _ hp=>hb.cell hp
theorem RdN.more {w:World} {B B':Nat} {A:Option Addr} {l:List Int} (h:RdN w B A l) (hB:B≤B'):RdN w B' A l:=fun hl=>by
 obtain⟨b,o,e,hb,hc⟩:=h hl;exact⟨b,o,e,by omega,hc⟩
end Go.Proofs.YtdjamdbamkhblabGreatDoor
namespace Go.Proofs.YtdjamdbamkhblabGreatDoor
open Go.RowKit Go.WideShapes Go.ChangeShapes Go.ChangeAt Go.Deep
theorem own:ownKnob Tryz.prog.godebug=none:=by kernel_rfl
theorem laidOut:laidOutB Tryz.prog=true:=by kernel_rfl
theorem cells_Instr:Tryz.prog.cellsOf 98=4:=by kernel_rfl
theorem cells_int:Tryz.prog.cellsOf 3=1:=by kernel_rfl
section
variable {H:Type} {enc:TypeId × Value→H} {P:Program}
theorem trodAll_stays (hl:laidOutB P=true) {W W':World} {sp':Nat→Bool}:∀ {ts:List TypeId} {vs:List Value} {ds:List (DataW H)} {ps:List MemPlace},
  ts.all (fun t=>P.readableRec t && decide (t<P.types.size))=true→DataW.TrodAll enc P W 0 (fun _=>true) true ts vs ds ps→(∀ p∈ps,W.sameAt W' p)→(∀ p∈ps,sp' p.block=true)→DataW.TrodAll enc P W' 0 sp' true ts vs ds ps
 | [],vs,ds,ps,_,h,_,_=>by
   obtain⟨rfl,rfl,rfl⟩:=trodAll_nil h;exact trodAll_mk0
 | t::ts,vs,ds,ps,ha,h,hs,hsp=>by
   obtain⟨v,vs',d,ds',p,q,rfl,rfl,rfl,h1,h2⟩:=trodAll_cons h;simp only[List.all_cons,Bool.and_eq_true,decide_eq_true_eq] at ha;exact⟨p,q,WideElems.Trod_stays hl ha.1.1 ha.1.2 h1 (fun x hx=>hs x (List.mem_append_left _ hx)) (fun x hx=>hsp x (List.mem_append_left _ hx)),
    trodAll_stays hl ha.2 h2 (fun x hx=>hs x (List.mem_append_right _ hx)) (fun x hx=>hsp x (List.mem_append_right _ hx)),rfl⟩
theorem law_post {f:Func} {s:ChangeSpec} {apart fresh handsOn:Bool} {W W':World} {args:Array Value} {ds gs:List (DataW H)} {before:List MemPlace} {bt:TypeId}
  (hW:DataW.Whole enc P f.params.toList s.vars apart W args.toList ds gs before) (hv:s.vars=[]) (hr:f.resultTypes= #[bt]) (hbt:P.underlying bt=some .bool) (hl:laidOutB P=true)
  (hall:f.params.toList.all (fun t=>P.readableRec t && decide (t<P.types.size))=true) (hs:s.fn H ds= { results:=[.lit (.bool true)],args:=ds }) (hb:Below W.heap.size W W'):
  s.post enc P f apart fresh handsOn false W args (.bool true) W':=by
 have hW':=hW;have hlt:∀ p∈before,p.block<W.heap.size:=fun p hp=>hW.lt p hp
 obtain⟨p,q,hA0,hV,rfl,hfz,hnd⟩:=hW;rw[hv] at hV;obtain⟨rfl,rfl⟩:=trodVars_none hV;have hA:DataW.TrodAll enc P W 0 (fun _=>true) true f.params.toList args.toList ds p:=hA0;rw[List.append_nil] at hW' hlt;refine⟨ds,[],p,[],p,[],hW',?_,?_,?_,?_,fun h=>by cases h⟩
 ·rw[List.append_nil,hs,hr]
  exact trodAll_mk1 (shut_bool hbt true)
 ·rw[List.append_nil,hs]
  exact trodAll_stays hl hall hA (fun x hx=>hb.same (hlt x hx)) (fun x hx=>by simpa using hlt x hx)
 ·rw[hv,List.append_nil,hs]
  exact rfl
 ·exact World.keptBut_mono (fun x hx=>⟨hx,Or.inr (Or.inl hx)⟩) (hb.frame (· ∈p))
theorem cells_of_strs {w:World} {base:Nat} {sp:Nat→Bool} {held:Bool} {fuel:Nat} {t e:TypeId} {n:Nat} {cs:List Value} {zs:List (List UInt8)} {p:List MemPlace}
  (ht:P.underlying t=some (.array n e)) (he:P.underlying e=some .string) (hce:P.cellsOf e=1) (hct:P.cellsOf t=n)
  (h:DataW.trod enc P w base sp held fuel t cs=some (.agg (zs.map fun z=> .lit (.string z)),p)):cs=zs.map fun z=>Value.string ⟨z.toArray⟩:=by
 cases fuel with
 | zero=>simp[DataW.trod] at h
 | succ fuel=>
   simp only[DataW.trod,ht,hce,hct,Nat.mul_one] at h;split at h
   ·rename_i hl
    obtain⟨xs,hm,hx⟩:=Option.map_eq_some_iff.1 h;have hxs:xs.map (·.1)=zs.map fun z=>(DataW.lit (.string z):DataW H):=by
     have:=congrArg Prod.fst hx
     simpa using this
    have hxl:xs.length=n:=by simpa using Lib.mapM_length hm
    have hzl:zs.length=n:=by
     have:=congrArg List.length hxs;simp at this;omega
    apply List.ext_getElem?;intro i;by_cases hi:i<n
    ·obtain⟨b,hb,hf⟩:=Lib.mapM_at hm i i (by simp[hi])
     obtain⟨z,hc,rfl,_⟩:=DataW.trod_string he hf;have h1:cs[i]? =some (.string z):=by
      have:=congrArg (·[0]?) hc
      simpa [List.getElem?_take,List.getElem?_drop] using this
     have h2:(xs.map (·.1))[i]? =some (DataW.lit (.string z.data.toList):DataW H):=by simp[hb]
     rw[hxs] at h2;simp only[List.getElem?_map,Option.map_eq_some_iff,DataW.lit.injEq,Lit.string.injEq] at h2;obtain⟨z',hz',hz⟩:=h2;subst hz;simp[h1,hz']
    ·rw[List.getElem?_eq_none (by omega),List.getElem?_eq_none (by simp;omega)]
   ·cases h
theorem strs_of_head {W:World} {name:String} {zs:List (List UInt8)} {rest:List (String × DataW Unit)} {g:Nat} {t e:TypeId} {n:Nat}
  (hg:P.globalNamed name=some g) (hty:(P.globals[g]?).map (·.type)=some t) (ht:P.underlying t=some (.array n e)) (he:P.underlying e=some .string) (hce:P.cellsOf e=1) (hct:P.cellsOf t=n)
  (h:laidMet P ((name, .agg (zs.map fun z=> .lit (.string z)))::rest) W) (i:Nat) (z:List UInt8) (hi:zs[i]? =some z):W.cell? ⟨g,i,none⟩=some (.string ⟨z.toArray⟩):=by
 obtain⟨ps,⟨g',t',cs,fuel,p,q,hg',ht',hvar,hd,_,_⟩,_⟩:=h;obtain rfl:=Option.some.inj (hg.symm.trans hg');obtain rfl:=Option.some.inj (hty.symm.trans ht');have hv:W.var? P name=some (zs.map fun z=>Value.string ⟨z.toArray⟩).toArray:=by rw[hvar, ←cells_of_strs ht he hce hct hd]
 have:=World.var?_cell hg hv i
 simpa [hi] using this
theorem open_rows {W:World} {base:Nat} {spare:Nat→Bool} {held:Bool} {t e:TypeId} {C:Nat} {v:Value} {y:DataW H × List MemPlace} {fuel:Nat}
  (ht:P.underlying t=some (.slice e)) (hC:P.cellsOf e=C) (hC0:0<C) (hf:DataW.trod enc P W base spare held fuel t [v]=some y):
  ∃ (A:Option Addr) (n c:Nat),v= .slice A n c∧n≤c∧c≤maxLen∧(A=none→n=0∧c=0)∧
   (0<n→∃ b o,A=some ⟨b,o,none⟩∧b<W.heap.size∧∀ i,i<n→∃ (cs:List Value) (fuel:Nat) (y:DataW H × List MemPlace),cs.length=C∧(∀ j,j<C→W.cell? ⟨b,o+i*C+j,none⟩=cs[j]?)∧
     DataW.trod enc P W base spare held fuel e cs=some y):=by
 rcases open_slice ht hf with⟨hcs,_⟩|⟨a,len,cap,m,n',D,Pl,hcs,_,hl,hm,hmm,_,hi⟩
 ·obtain rfl:v= .slice none 0 0:=by simpa using hcs
  exact⟨none,0,0,rfl,Nat.le_refl _,Nat.zero_le _,fun _=>⟨rfl,rfl⟩,fun h=>absurd h (by omega)⟩
 ·obtain rfl:v= .slice (some a) len cap:=by simpa using hcs
  obtain⟨n,rfl⟩:∃ n,n=len:=⟨_,rfl⟩;obtain⟨c,rfl⟩:∃ c,c=cap:=⟨_,rfl⟩;refine⟨some a,n,c,rfl,hl,hm,fun h=>(nomatch h),fun hn=>?_⟩;have hnm:n≤m:=by rw[hmm];split<;>omega
  have spot:∀ (q:Addr) (u:Value),W.cell? q=some u→q=⟨q.block,q.off,none⟩:=by
   rintro⟨b,o,sp⟩ u hq;cases sp with
   | none=>rfl
   | some x=>simp[World.cell?] at hq;split at hq<;>simp at hq
  have key:∀ i,i<n→∃ cs',cs'.length=C∧(∀ j,j<C→W.cell? (a.add (i*C+j))=cs'[j]?)∧DataW.trod enc P W base spare held n' e cs'=some (D i,Pl i):=by
   intro i hin;obtain⟨cs',h1,h2⟩:=hi i (by omega);rw[hC] at h1;obtain⟨_,hlen,hat⟩:=World.cells?_some h1;exact⟨cs',hlen,fun j hj=>by rw[←Go.Deep.add_add];exact hat j hj,h2⟩
  obtain⟨cs0,hl0,hc0,_⟩:=key 0 hn;have h00:=hc0 0 hC0;rw[List.getElem?_eq_getElem (by omega),show a.add (0*C+0)=a by simp[Addr.add]] at h00;have ha:=spot _ _ h00;have hlt:=World.block_lt_of_cell? W _ h00;refine⟨a.block,a.off,congrArg some ha,hlt,fun i hin=>?_⟩;obtain⟨cs',h1,h2,h3⟩:=key i hin;refine⟨cs',n',_,h1,fun j hj=>?_,h3⟩;rw[←h2 j hj];by_cases hz:i*C+j=0
  ·rw[Nat.add_assoc,hz,show a.add 0=a by simp[Addr.add],Nat.add_zero, ←ha]
  ·unfold Addr.add
   rw[if_neg hz,Nat.add_assoc]
def wf64 (n:Int):Prop:= -9223372036854775808≤n∧n≤9223372036854775807
theorem wf64_of {n:Int} (h:(Lit.int .i64 n).wf=true):wf64 n:=by
 simpa [Lit.wf,IntKind.min,IntKind.max,IntKind.signed,IntKind.bits,wf64] using h
def Ins.wf (i:Ins):Prop:=wf64 i.op∧wf64 i.a∧wf64 i.b∧wf64 i.c
theorem trod_ints4 {W:World} {base:Nat} {spare:Nat→Bool} {held:Bool} {e:TypeId} {f0 f1 f2 f3:Field} {fuel:Nat} {cs:List Value} {y:DataW H × List MemPlace}
  (he:P.underlying e=some (.struct #[f0,f1,f2,f3])) (hone:oneCellFields P #[f0,f1,f2,f3]=true)
  (h0:P.underlying f0.type=some (.int .i64)) (h1:P.underlying f1.type=some (.int .i64)) (h2:P.underlying f2.type=some (.int .i64)) (h3:P.underlying f3.type=some (.int .i64))
  (hlen:cs.length=4) (h:DataW.trod enc P W base spare held fuel e cs=some y):
  ∃ i:Ins,i.wf∧cs=[.int .i64 i.op, .int .i64 i.a, .int .i64 i.b, .int .i64 i.c]:=by
 match cs,hlen with
 | [c0,c1,c2,c3],_=>
   obtain⟨xs,n,_,hx,_,hl,hg⟩:=DataW.trod_struct he h;obtain⟨o0,k0⟩:=hone_of hone 0 f0 rfl;obtain⟨o1,k1⟩:=hone_of hone 1 f1 rfl;obtain⟨o2,k2⟩:=hone_of hone 2 f2 rfl;obtain⟨o3,k3⟩:=hone_of hone 3 f3 rfl
   match xs,hl with
   | [y0,y1,y2,y3],_=>
     have g0:DataW.trod enc P W base spare held n f0.type [c0]=some y0:=by simpa [Value.cells,o0,k0] using hg 0 f0 rfl
     have g1:DataW.trod enc P W base spare held n f1.type [c1]=some y1:=by simpa [Value.cells,o1,k1] using hg 1 f1 rfl
     have g2:DataW.trod enc P W base spare held n f2.type [c2]=some y2:=by simpa [Value.cells,o2,k2] using hg 2 f2 rfl
     have g3:DataW.trod enc P W base spare held n f3.type [c3]=some y3:=by simpa [Value.cells,o3,k3] using hg 3 f3 rfl
     obtain⟨n0,e0,_,w0⟩:=DataW.trod_int h0 g0;obtain⟨n1,e1,_,w1⟩:=DataW.trod_int h1 g1;obtain⟨n2,e2,_,w2⟩:=DataW.trod_int h2 g2;obtain⟨n3,e3,_,w3⟩:=DataW.trod_int h3 g3;simp at e0 e1 e2 e3;subst e0;subst e1;subst e2;subst e3;exact⟨⟨n0,n1,n2,n3⟩,⟨wf64_of w0,wf64_of w1,wf64_of w2,wf64_of w3⟩,rfl⟩
theorem choose_list {α:Type} [Inhabited α] {n:Nat} {p:Nat→α→Prop} (h:∀ i,i<n→∃ x,p i x):∃ l:List α,l.length=n∧∀ i (hi:i<l.length),p i l[i]:=by
 obtain⟨f,hf⟩:=choose_lt h;exact⟨(List.range n).map f,by simp,fun i hi=>by simpa using hf i (by simpa using hi)⟩
theorem open_code' {W:World} {base:Nat} {spare:Nat→Bool} {held:Bool} {t e:TypeId} {f0 f1 f2 f3:Field} {v:Value} {y:DataW H × List MemPlace} {fuel:Nat}
  (ht:P.underlying t=some (.slice e)) (he:P.underlying e=some (.struct #[f0,f1,f2,f3])) (hone:oneCellFields P #[f0,f1,f2,f3]=true) (hC:P.cellsOf e=4)
  (h0:P.underlying f0.type=some (.int .i64)) (h1:P.underlying f1.type=some (.int .i64)) (h2:P.underlying f2.type=some (.int .i64)) (h3:P.underlying f3.type=some (.int .i64))
  (h:DataW.trod enc P W base spare held fuel t [v]=some y):
  ∃ (A:Option Addr) (c:Nat) (l:List Ins),v= .slice A l.length c∧l.length≤c∧c≤maxLen∧(A=none→l.length=0∧c=0)∧RdI W W.heap.size A l∧∀ i∈l,i.wf:=by
 obtain⟨A,n,c,rfl,hn,hc,hnil,hx⟩:=open_rows ht hC (by omega) h;by_cases hn0:0<n
 ·obtain⟨b,o,rfl,hb,hi⟩:=hx hn0
  obtain⟨l,hl,hp⟩:=choose_list (α:=Ins) (n:=n) (p:=fun i x=>x.wf∧W.cell? ⟨b,o+i*4,none⟩=some (.int .i64 x.op)∧W.cell? ⟨b,o+i*4+1,none⟩=some (.int .i64 x.a)∧
    W.cell? ⟨b,o+i*4+2,none⟩=some (.int .i64 x.b)∧W.cell? ⟨b,o+i*4+3,none⟩=some (.int .i64 x.c)) (fun i hin=>by
   obtain⟨cs,fuel,y,hlen,hcell,htr⟩:=hi i hin;obtain⟨x,hw,rfl⟩:=trod_ints4 he hone h0 h1 h2 h3 hlen htr;exact⟨x,hw,hcell 0 (by omega),hcell 1 (by omega),hcell 2 (by omega),hcell 3 (by omega)⟩)
  subst hl;refine⟨_,c,l,rfl,hn,hc,hnil,fun _=>⟨b,o,rfl,hb,fun k hk=>(hp k hk).2⟩,fun i hi'=>?_⟩;obtain⟨k,hk,rfl⟩:=List.mem_iff_getElem.1 hi';exact(hp k hk).1
 ·obtain rfl:n=0:=by omega
  exact⟨A,c,[],rfl,hn,hc,hnil,fun h=>absurd h (by simp),fun i hi=>by cases hi⟩
theorem open_intlist' {W:World} {base:Nat} {spare:Nat→Bool} {held:Bool} {t e:TypeId} {v:Value} {y:DataW H × List MemPlace} {fuel:Nat}
  (ht:P.underlying t=some (.slice e)) (he:P.underlying e=some (.int .i64)) (hC:P.cellsOf e=1) (h:DataW.trod enc P W base spare held fuel t [v]=some y):
  ∃ (A:Option Addr) (c:Nat) (l:List Int),v= .slice A l.length c∧l.length≤c∧c≤maxLen∧(A=none→l.length=0∧c=0)∧RdN W W.heap.size A l∧∀ i∈l,wf64 i:=by
 obtain⟨A,n,c,rfl,hn,hc,hnil,hx⟩:=open_rows ht hC (by omega) h;by_cases hn0:0<n
 ·obtain⟨b,o,rfl,hb,hi⟩:=hx hn0
  obtain⟨l,hl,hp⟩:=choose_list (α:=Int) (n:=n) (p:=fun i x=>wf64 x∧W.cell? ⟨b,o+i,none⟩=some (.int .i64 x)) (fun i hin=>by
   obtain⟨cs,fuel,y,hlen,hcell,htr⟩:=hi i hin
   match cs,hlen with
   | [c0],_=>
     obtain⟨x,e0,_,hw⟩:=DataW.trod_int he htr;simp at e0;subst e0;exact⟨x,wf64_of hw,by simpa using hcell 0 (by omega)⟩)
  subst hl;refine⟨_,c,l,rfl,hn,hc,hnil,fun _=>⟨b,o,rfl,hb,fun k hk=>(hp k hk).2⟩,fun i hi'=>?_⟩;obtain⟨k,hk,rfl⟩:=List.mem_iff_getElem.1 hi';exact(hp k hk).1
 ·obtain rfl:n=0:=by omega
  exact⟨A,c,[],rfl,hn,hc,hnil,fun h=>absurd h (by simp),fun i hi=>by cases hi⟩
end
end Go.Proofs.YtdjamdbamkhblabGreatDoor
namespace Go.Proofs.YtdjamdbamkhblabGreatDoor
open Go.RowKit
def inB (n lo hi:Int):Bool:=decide (lo≤n) && decide (n≤hi)
theorem inB_true {n lo hi:Int} (h1:lo≤n) (h2:n≤hi):inB n lo hi=true:=by simp[inB,h1,h2]
theorem inB_false {n lo hi:Int} (h:n<lo∨hi<n):inB n lo hi=false:=by
 rcases h with h|h
 ·simp[inB];omega
 ·simp[inB];omega
set_option maxHeartbeats 400000 in
theorem In_any (n lo hi:Int) (w:World):
  Calls Tryz.prog 17 #[.int .i64 n, .int .i64 lo, .int .i64 hi] w fun e w'=>e= .returned (.bool (inB n lo hi))∧w=w':=by
 by_cases h1:lo≤n<;>by_cases h2:n≤hi
 all_goals
  go_enter Tryz.func17,Tryz.ntmps17;go_wp2;go_ret;simp[inB,h1,h2]
set_option maxHeartbeats 400000 in
theorem IsWord_any (n:Int) (w:World):Calls Tryz.prog 82 #[.int .i64 n] w fun e w'=>e= .returned (.bool (inB n 0 65535))∧w=w':=by
 go_enter Tryz.func82,Tryz.ntmps82;go_wp2_with (go_at_call 17;refine(In_any _ _ _ _).mono ?_;rintro e w' ⟨rfl,rfl⟩);go_ret;exact⟨rfl,rfl⟩
end Go.Proofs.YtdjamdbamkhblabGreatDoor
namespace Go.Proofs.YtdjamdbamkhblabGreatDoor
open Go.RowKit
def grt (c:Int):Int:=if c == 114 then 7 else if c == 119 then 65535 else if c == 112 then 199 else 0
def shp (q:Nat):ByteArray:=
 match q with
 | 1=>⟨#[114,45,119]⟩|2=>⟨#[114,114,114]⟩|3=>⟨#[114,114,114]⟩|4=>⟨#[114,114,114]⟩|5=>⟨#[114,114,114]⟩|6=>⟨#[114,114,114]⟩|7=>⟨#[114,114,114]⟩
 | 8=>⟨#[114,114,45]⟩|9=>⟨#[114,114,45]⟩|10=>⟨#[45,45,112]⟩|11=>⟨#[114,45,112]⟩|12=>⟨#[45,45,112]⟩|13=>⟨#[45,45,45]⟩|14=>⟨#[114,45,45]⟩|15=>⟨#[45,45,45]⟩
 | _=>⟨#[]⟩
def gA (op:Int):Int:=if op=10∨op=12∨op=13∨op=15 then 0 else 7
def gB (op:Int):Int:=if 2≤op∧op≤9 then 7 else 0
def gC (op:Int):Int:=if op=1 then 65535 else if 2≤op∧op≤7 then 7 else if op=10∨op=11∨op=12 then 199 else 0
theorem q_cases {q:Nat} (h1:1≤q) (h2:q≤15):q=1∨q=2∨q=3∨q=4∨q=5∨q=6∨q=7∨q=8∨q=9∨q=10∨q=11∨q=12∨q=13∨q=14∨q=15:=by omega
theorem shp_size {q:Nat} (h1:1≤q) (h2:q≤15):(shp q).size=3:=by
 rcases q_cases h1 h2 with h|h|h|h|h|h|h|h|h|h|h|h|h|h|h<;>subst h<;>rfl
theorem shp_parts {q:Nat} (h1:1≤q) (h2:q≤15) (h:(shp q).size=3):grt ((shp q)[0]'(by omega)).toNat=gA q∧grt ((shp q)[1]'(by omega)).toNat=gB q∧grt ((shp q)[2]'(by omega)).toNat=gC q:=by
 rcases q_cases h1 h2 with h|h|h|h|h|h|h|h|h|h|h|h|h|h|h<;>subst h<;>exact⟨rfl,rfl,rfl⟩
def Tab (w:World):Prop:=0<w.heap.size∧∀ k:Nat,k<16→w.cell? ⟨0,k,none⟩=some (.string (shp k))
theorem Tab.below {w w':World} (h:Tab w) (hb:Below w.heap.size w w'):Tab w':=
 ⟨Nat.lt_of_lt_of_le h.1 hb.size,fun k hk=>(hb.cell (p:=⟨_,k,none⟩) h.1).trans (h.2 k hk)⟩
def okI (i:Ins):Bool:=decide (0≤i.a∧i.a≤gA i.op) && decide (0≤i.b∧i.b≤gB i.op) && decide (0≤i.c∧i.c≤gC i.op)
def chk:List Ins→Int
 | []=>0
 | i::r=>if i.op<1∨15<i.op then 3 else if okI i then chk r else 2
def check (l:List Ins):Int:=if 200<l.length then 1 else chk l
theorem chk_drop {l:List Ins} {k:Nat} (h:k<l.length):chk (l.drop k)=if l[k].op<1∨15<l[k].op then 3 else if okI l[k] then chk (l.drop (k+1)) else 2:=by
 rw[List.drop_eq_getElem_cons h];rfl
set_option maxHeartbeats 400000 in
theorem greatest_any (c:Int) (w:World):
  Calls Tryz.prog 99 #[.int .u8 c] w fun e w'=>e= .returned (.int .i64 (grt c))∧w=w':=by
 go_enter Tryz.func99,Tryz.ntmps99;go_wp2
 all_goals go_ret
 all_goals simp[grt, *]
set_option maxHeartbeats 400000 in
theorem mostOf_any (c:Int) (w:World):
  Calls Tryz.prog 104 #[.int .u8 c] w fun e w'=>e= .returned (.int .i64 (grt c))∧w=w':=by
 go_enter Tryz.func104,Tryz.ntmps104;go_wp2
 all_goals go_ret
 all_goals simp[grt, *]
set_option maxHeartbeats 400000 in
theorem shapeOf_any (q:Nat) (h1:1≤q) (h2:q≤15) (w:World):
  Calls Tryz.prog 103 #[.int .i64 q] w fun e w'=>e= .returned (.string (shp q))∧w=w':=by
 rcases q_cases h1 h2 with h|h|h|h|h|h|h|h|h|h|h|h|h|h|h<;>subst h
 all_goals
  go_enter Tryz.func103,Tryz.ntmps103;go_wp2;go_ret;exact⟨rfl,rfl⟩
set_option maxHeartbeats 1000000 in
theorem Check_any (A:Option Addr) (c:Nat) (l:List Ins) (w:World) (hr:RdI w w.heap.size A l) (ht:Tab w) (hl:l.length≤maxLen):
  Calls Tryz.prog 84 #[.slice A l.length c] w fun e w'=>e= .returned (.int .i64 (check l))∧Below w.heap.size w w':=by
 unfold maxLen at hl;by_cases h200:200<l.length
 ·go_enter Tryz.func84,Tryz.ntmps84
  go_wp2;go_ret;exact⟨ret_int (by rw[check,if_pos h200]),Below.refl _ _⟩
 ·have hck:check l=chk (l.drop 0):=by rw[check,if_neg h200];rfl
  have HC:=Lib.hid hck;clear hck;obtain⟨h0,ht⟩:=ht;go_enter Tryz.func84,Tryz.ntmps84;go_wp2;go_loopw [12] (fun i wr=>∃ k:Nat,k≤l.length∧i= .int .i64 k∧Below w.heap.size w wr∧Hid (check l=chk (l.drop k))) (fun i _=>l.length - (intOf i).toNat)
  case atStart=>exact⟨0,Nat.zero_le _,rfl,Below.refl _ _,HC⟩
  case round=>
   clear HC;obtain⟨k,hk,rfl,hb,HC⟩:=hrel;by_cases hlt:k<l.length
   ·obtain⟨b,o,rfl,hbB,hcell⟩:=hr (by omega)
    obtain⟨c0,c1,c2,c3⟩:=hcell k hlt;rw[←hb.cell (p:=⟨b,_,none⟩) hbB] at c0 c1 c2 c3;have HD:=Lib.hid (chk_drop hlt);have hz0:0<wr.heap.size:=Nat.lt_of_lt_of_le h0 hb.size;have hz1:0<wr.heap.size+1:=by omega
    have hz2:0<wr.heap.size+1+1:=by omega
    have hzb:b<wr.heap.size:=Nat.lt_of_lt_of_le hbB hb.size;have hzb1:b<wr.heap.size+1:=by omega
    have hbz:=hb.size;clear hr hcell;by_cases hop:1≤l[k].op∧l[k].op≤15
    ·obtain⟨hop1,hop2⟩:=hop
     obtain⟨q,hq⟩:∃ q:Nat,l[k].op=q:=⟨l[k].op.toNat,by omega⟩;rw[hq] at c0 hop1 hop2;have tq:=ht q (by omega);rw[←hb.cell (p:=⟨0,_,none⟩) h0] at tq;have hs:(shp q).size=3:=shp_size (by omega) (by omega);obtain⟨hpa,hpb,hpc⟩:=shp_parts (q:=q) (by omega) (by omega) hs;have HE:Hid (okI l[k]=(decide (0≤l[k].a∧l[k].a≤grt ((shp q)[0]'(by omega)).toNat) && decide (0≤l[k].b∧l[k].b≤grt ((shp q)[1]'(by omega)).toNat) && decide (0≤l[k].c∧l[k].c≤grt ((shp q)[2]'(by omega)).toNat))):=by
      rw[hpa,hpb,hpc];unfold okI;rw[hq];exact rfl
     have HF:Hid (¬ (l[k].op<1∨15<l[k].op)):=by show ¬ _;omega
     clear ht hq hpa hpb hpc;generalize hx:l[k].a=x at*;generalize hy:l[k].b=y at*;generalize hz:l[k].c=z at*;clear hx hy hz;go_wp2;refine wp_loop_rounds 4 ?_;rw[rounds_succ];by_cases hxx:0≤x∧x≤grt ((shp q)[0]'(by omega)).toNat
     ·obtain⟨hx1,hx2⟩:=hxx
      go_wp2_with (go_at_call 99;refine(greatest_any _ _).mono ?_;rintro e w' ⟨rfl,rfl⟩);rw[rounds_succ];by_cases hxx:0≤y∧y≤grt ((shp q)[1]'(by omega)).toNat
      ·obtain⟨hy1,hy2⟩:=hxx
       go_wp2_with (go_at_call 99;refine(greatest_any _ _).mono ?_;rintro e w' ⟨rfl,rfl⟩);rw[rounds_succ];by_cases hxx:0≤z∧z≤grt ((shp q)[2]'(by omega)).toNat
       ·obtain⟨hz1,hz2⟩:=hxx
        go_wp2_with (go_at_call 99;refine(greatest_any _ _).mono ?_;rintro e w' ⟨rfl,rfl⟩);rw[rounds_succ];go_wp2;go_roundw
        case rel=>
         refine⟨k+1,by omega,by go_num,(hb.alloc hbz _).alloc (by simp;omega) _,?_⟩;show _=_;rw[HC.out,HD.out,if_neg HF.out,HE.out];simp[hx1,hx2,hy1,hy2,hz1,hz2]
        case measure=>simp[intOf];omega
       ·have HG:Hid (check l=2):=by
         show _=_;rw[HC.out,HD.out,if_neg HF.out,HE.out];simp[hxx]
        by_cases hz0:z<0
        ·go_wp2_with (go_at_call 99;refine(greatest_any _ _).mono ?_;rintro e w' ⟨rfl,rfl⟩)
         go_ret;exact⟨ret_int HG.out.symm,(hb.alloc hbz _).alloc (by simp;omega) _⟩
        ·have hz1:grt ((shp q)[2]'(by omega)).toNat<z:=by omega
         go_wp2_with (go_at_call 99;refine(greatest_any _ _).mono ?_;rintro e w' ⟨rfl,rfl⟩);go_ret;exact⟨ret_int HG.out.symm,(hb.alloc hbz _).alloc (by simp;omega) _⟩
      ·have HG:Hid (check l=2):=by
        show _=_;rw[HC.out,HD.out,if_neg HF.out,HE.out];simp[hxx]
       by_cases hy0:y<0
       ·go_wp2_with (go_at_call 99;refine(greatest_any _ _).mono ?_;rintro e w' ⟨rfl,rfl⟩)
        go_ret;exact⟨ret_int HG.out.symm,(hb.alloc hbz _).alloc (by simp;omega) _⟩
       ·have hy1:grt ((shp q)[1]'(by omega)).toNat<y:=by omega
        go_wp2_with (go_at_call 99;refine(greatest_any _ _).mono ?_;rintro e w' ⟨rfl,rfl⟩);go_ret;exact⟨ret_int HG.out.symm,(hb.alloc hbz _).alloc (by simp;omega) _⟩
     ·have HG:Hid (check l=2):=by
       show _=_;rw[HC.out,HD.out,if_neg HF.out,HE.out];simp[hxx]
      by_cases hx0:x<0
      ·go_wp2_with (go_at_call 99;refine(greatest_any _ _).mono ?_;rintro e w' ⟨rfl,rfl⟩)
       go_ret;exact⟨ret_int HG.out.symm,(hb.alloc hbz _).alloc (by simp;omega) _⟩
      ·have hx1:grt ((shp q)[0]'(by omega)).toNat<x:=by omega
       go_wp2_with (go_at_call 99;refine(greatest_any _ _).mono ?_;rintro e w' ⟨rfl,rfl⟩);go_ret;exact⟨ret_int HG.out.symm,(hb.alloc hbz _).alloc (by simp;omega) _⟩
    ·have HG:Hid (check l=3):=by
      show _=_;rw[HC.out,HD.out,if_pos (by omega)]
     generalize l[k].op=q at*;by_cases hop1:q<1
     ·go_wp2
      go_ret;exact⟨ret_int HG.out.symm,hb.alloc hbz _⟩
     ·have hop2:15<q:=by omega
      go_wp2;go_ret;exact⟨ret_int HG.out.symm,hb.alloc hbz _⟩
   ·go_wp2
    go_ret;exact⟨ret_int (by rw[HC.out,List.drop_of_length_le (by omega)];rfl),hb⟩
end Go.Proofs.YtdjamdbamkhblabGreatDoor
