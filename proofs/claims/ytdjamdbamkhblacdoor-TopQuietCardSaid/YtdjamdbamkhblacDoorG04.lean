/- What every law's proof of this seat shares: from a walk that leaves old memory as it was to the row's last step; arguments opened. No condition. a slice that reads as cells; append onto a row of the call's own from it. Lists of instructions and of integers as rows of cells; rows of the call's own read as lists: no condition. -/
import Derived.Test.YtdjamdbamkhblacDoorG01
import Derived.Deep.DeepHandedRow
import Derived.Lib.LaidTab
namespace Go.Proofs.YtdjamdbamkhblacDoor
open Go.RowKit Go.WideShapes Go.ChangeShapes Go.ChangeAt Go.Deep
theorem own:ownKnob Tryd.prog.godebug=none:=by kernel_rfl
theorem laidOut:laidOutB Tryd.prog=true:=by kernel_rfl
theorem Sz1:Tryd.prog.cellsOf 23=4:=by kernel_rfl
section
variable {H:Type} {enc:TypeId × Value→H} {P:Program}
theorem Ezm (hl:laidOutB P=true) {W W':World} {sp':Nat→Bool}:∀ {ts:List TypeId} {vs:List Value} {ds:List (DataW H)} {ps:List MemPlace},
  ts.all (fun t=>P.readableRec t && decide (t<P.types.size))=true→DataW.TrodAll enc P W 0 (fun _=>true) true ts vs ds ps→(∀ p∈ps,W.sameAt W' p)→(∀ p∈ps,sp' p.block=true)→DataW.TrodAll enc P W' 0 sp' true ts vs ds ps
 | [],vs,ds,ps,_,h,_,_=>by
   obtain⟨rfl,rfl,rfl⟩:=trodAll_nil h;exact trodAll_mk0
 | t::ts,vs,ds,ps,ha,h,hs,hsp=>by
   obtain⟨v,vs',d,ds',p,q,rfl,rfl,rfl,h1,h2⟩:=trodAll_cons h;simp only[List.all_cons,Bool.and_eq_true,decide_eq_true_eq] at ha;exact⟨p,q,WideElems.Trod_stays hl ha.1.1 ha.1.2 h1 (fun x hx=>hs x (List.mem_append_left _ hx)) (fun x hx=>hsp x (List.mem_append_left _ hx)),
    Ezm hl ha.2 h2 (fun x hx=>hs x (List.mem_append_right _ hx)) (fun x hx=>hsp x (List.mem_append_right _ hx)),rfl⟩
theorem Szs {f:Func} {s:ChangeSpec} {apart fresh handsOn:Bool} {W W':World} {args:Array Value} {ds gs:List (DataW H)} {before:List MemPlace} {bt:TypeId}
  (hW:DataW.Whole enc P f.params.toList s.vars apart W args.toList ds gs before) (hv:s.vars=[]) (hr:f.resultTypes= #[bt]) (hbt:P.underlying bt=some .bool) (hl:laidOutB P=true)
  (hall:f.params.toList.all (fun t=>P.readableRec t && decide (t<P.types.size))=true) (hs:s.fn H ds= { results:=[.lit (.bool true)],args:=ds }) (hb:Below W.heap.size W W'):
  s.post enc P f apart fresh handsOn false W args (.bool true) W':=by
 have hW':=hW;have hlt:∀ p∈before,p.block<W.heap.size:=fun p hp=>hW.lt p hp
 obtain⟨p,q,hA0,hV,rfl,hfz,hnd⟩:=hW;rw[hv] at hV;obtain⟨rfl,rfl⟩:=trodVars_none hV;have hA:DataW.TrodAll enc P W 0 (fun _=>true) true f.params.toList args.toList ds p:=hA0;rw[List.append_nil] at hW' hlt;refine⟨ds,[],p,[],p,[],hW',?_,?_,?_,?_,fun h=>by cases h⟩
 ·rw[List.append_nil,hs,hr]
  exact trodAll_mk1 (shut_bool hbt true)
 ·rw[List.append_nil,hs]
  exact Ezm hl hall hA (fun x hx=>hb.same (hlt x hx)) (fun x hx=>by simpa using hlt x hx)
 ·rw[hv,List.append_nil,hs]
  exact rfl
 ·exact World.keptBut_mono (fun x hx=>⟨hx,Or.inr (Or.inl hx)⟩) (hb.frame (· ∈p))
theorem Hz2 {w:World} {base:Nat} {sp:Nat→Bool} {held:Bool} {fuel:Nat} {t e:TypeId} {n:Nat} {cs:List Value} {zs:List (List UInt8)} {p:List MemPlace}
  (ht:P.underlying t=some (.array n e)) (he:P.underlying e=some .string) (hce:P.cellsOf e=1) (hct:P.cellsOf t=n)
  (h:DataW.trod enc P w base sp held fuel t cs=some (.agg (zs.map fun z=> .lit (.string z)),p)):cs=zs.map fun z=>Value.string ⟨z.toArray⟩:=by
 cases fuel with
 | zero=>simp[DataW.trod] at h
 | succ fuel=>
   simp only[DataW.trod,ht,hce,hct,Nat.mul_one] at h;split at h
   ·rename_i hl
    obtain⟨xs,hm,hx⟩:=Option.map_eq_some_iff.1 h;have hxs:xs.map (·.1)=zs.map fun z=>(DataW.lit (.string z):DataW H):=by
     have:=congrArg Prod.fst hx
     simpa using this
    have hxl:xs.length=n:=by simpa using Lib.mapM_length hm
    have hzl:zs.length=n:=by
     have:=congrArg List.length hxs;simp at this;omega
    apply List.ext_getElem?;intro i;by_cases hi:i<n
    ·obtain⟨b,hb,hf⟩:=Lib.mapM_at hm i i (by simp[hi])
     obtain⟨z,hc,rfl,_⟩:=DataW.trod_string he hf;have h1:cs[i]? =some (.string z):=by
      have:=congrArg (·[0]?) hc
      simpa [List.getElem?_take,List.getElem?_drop] using this
     have h2:(xs.map (·.1))[i]? =some (DataW.lit (.string z.data.toList):DataW H):=by simp[hb]
     rw[hxs] at h2;simp only[List.getElem?_map,Option.map_eq_some_iff,DataW.lit.injEq,Lit.string.injEq] at h2;obtain⟨z',hz',hz⟩:=h2;subst hz;simp[h1,hz']
    ·rw[List.getElem?_eq_none (by omega),List.getElem?_eq_none (by simp;omega)]
   ·cases h
theorem Izo {W:World} {name:String} {zs:List (List UInt8)} {rest:List (String × DataW Unit)} {g:Nat} {t e:TypeId} {n:Nat}
  (hg:P.globalNamed name=some g) (hty:(P.globals[g]?).map (·.type)=some t) (ht:P.underlying t=some (.array n e)) (he:P.underlying e=some .string) (hce:P.cellsOf e=1) (hct:P.cellsOf t=n)
  (h:laidMet P ((name, .agg (zs.map fun z=> .lit (.string z)))::rest) W) (i:Nat) (z:List UInt8) (hi:zs[i]? =some z):W.cell? ⟨g,i,none⟩=some (.string ⟨z.toArray⟩):=by
 obtain⟨ps,⟨g',t',cs,fuel,p,q,hg',ht',hvar,hd,_,_⟩,_⟩:=h;obtain rfl:=Option.some.inj (hg.symm.trans hg');obtain rfl:=Option.some.inj (hty.symm.trans ht');have hv:W.var? P name=some (zs.map fun z=>Value.string ⟨z.toArray⟩).toArray:=by rw[hvar, ←Hz2 ht he hce hct hd]
 have:=World.var?_cell hg hv i
 simpa [hi] using this
theorem Nzi {W:World} {base:Nat} {spare:Nat→Bool} {held:Bool} {t e:TypeId} {C:Nat} {v:Value} {y:DataW H × List MemPlace} {fuel:Nat}
  (ht:P.underlying t=some (.slice e)) (hC:P.cellsOf e=C) (hC0:0<C) (hf:DataW.trod enc P W base spare held fuel t [v]=some y):
  ∃ (A:Option Addr) (n c:Nat),v= .slice A n c∧n≤c∧c≤maxLen∧(A=none→n=0∧c=0)∧
   (0<n→∃ b o,A=some ⟨b,o,none⟩∧b<W.heap.size∧∀ i,i<n→∃ (cs:List Value) (fuel:Nat) (y:DataW H × List MemPlace),cs.length=C∧(∀ j,j<C→W.cell? ⟨b,o+i*C+j,none⟩=cs[j]?)∧
     DataW.trod enc P W base spare held fuel e cs=some y):=by
 rcases open_slice ht hf with⟨hcs,_⟩|⟨a,len,cap,m,n',D,Pl,hcs,_,hl,hm,hmm,_,hi⟩
 ·obtain rfl:v= .slice none 0 0:=by simpa using hcs
  exact⟨none,0,0,rfl,Nat.le_refl _,Nat.zero_le _,fun _=>⟨rfl,rfl⟩,fun h=>absurd h (by omega)⟩
 ·obtain rfl:v= .slice (some a) len cap:=by simpa using hcs
  obtain⟨n,rfl⟩:∃ n,n=len:=⟨_,rfl⟩;obtain⟨c,rfl⟩:∃ c,c=cap:=⟨_,rfl⟩;refine⟨some a,n,c,rfl,hl,hm,fun h=>(nomatch h),fun hn=>?_⟩;have hnm:n≤m:=by rw[hmm];split<;>omega
  have spot:∀ (q:Addr) (u:Value),W.cell? q=some u→q=⟨q.block,q.off,none⟩:=by
   rintro⟨b,o,sp⟩ u hq;cases sp with
   | none=>rfl
   | some x=>simp[World.cell?] at hq;split at hq<;>simp at hq
  have key:∀ i,i<n→∃ cs',cs'.length=C∧(∀ j,j<C→W.cell? (a.add (i*C+j))=cs'[j]?)∧DataW.trod enc P W base spare held n' e cs'=some (D i,Pl i):=by
   intro i hin;obtain⟨cs',h1,h2⟩:=hi i (by omega);rw[hC] at h1;obtain⟨_,hlen,hat⟩:=World.cells?_some h1;exact⟨cs',hlen,fun j hj=>by rw[←Go.Deep.add_add];exact hat j hj,h2⟩
  obtain⟨cs0,hl0,hc0,_⟩:=key 0 hn;have h00:=hc0 0 hC0;rw[List.getElem?_eq_getElem (by omega),show a.add (0*C+0)=a by simp[Addr.add]] at h00;have ha:=spot _ _ h00;have hlt:=World.block_lt_of_cell? W _ h00;refine⟨a.block,a.off,congrArg some ha,hlt,fun i hin=>?_⟩;obtain⟨cs',h1,h2,h3⟩:=key i hin;refine⟨cs',n',_,h1,fun j hj=>?_,h3⟩;rw[←h2 j hj];by_cases hz:i*C+j=0
  ·rw[Nat.add_assoc,hz,show a.add 0=a by simp[Addr.add],Nat.add_zero, ←ha]
  ·unfold Addr.add
   rw[if_neg hz,Nat.add_assoc]
theorem Iz0 {W:World} {base:Nat} {spare:Nat→Bool} {held:Bool} {t e:TypeId} {v:Value} {d:DataW H} {p:List MemPlace} {r:Reach} {b0:Nat}
  (ht:P.underlying t=some (.slice e)) (hv:Value.okWide P W r b0 t v) (h:DataW.Trod enc P W base spare held t v d p):∃ fuel,DataW.trod enc P W base spare held fuel t [v]=some (d,p):=by
 obtain⟨A,n,c,rfl⟩:=okWide_slice ht hv;exact h
def wf64 (n:Int):Prop:= -9223372036854775808≤n∧n≤9223372036854775807
theorem Dzd {n:Int} (h:(Lit.int .i64 n).wf=true):wf64 n:=by
 simpa [Lit.wf,IntKind.min,IntKind.max,IntKind.signed,IntKind.bits,wf64] using h
def Ins.wf (i:Ins):Prop:=wf64 i.op∧wf64 i.a∧wf64 i.b∧wf64 i.c
theorem Lzx {W:World} {base:Nat} {spare:Nat→Bool} {held:Bool} {e:TypeId} {f0 f1 f2 f3:Field} {fuel:Nat} {cs:List Value} {y:DataW H × List MemPlace}
  (he:P.underlying e=some (.struct #[f0,f1,f2,f3])) (hone:oneCellFields P #[f0,f1,f2,f3]=true)
  (h0:P.underlying f0.type=some (.int .i64)) (h1:P.underlying f1.type=some (.int .i64)) (h2:P.underlying f2.type=some (.int .i64)) (h3:P.underlying f3.type=some (.int .i64))
  (hlen:cs.length=4) (h:DataW.trod enc P W base spare held fuel e cs=some y):
  ∃ i:Ins,i.wf∧cs=[.int .i64 i.op, .int .i64 i.a, .int .i64 i.b, .int .i64 i.c]:=by
 match cs,hlen with
 | [c0,c1,c2,c3],_=>
   obtain⟨xs,n,_,hx,_,hl,hg⟩:=DataW.trod_struct he h;obtain⟨o0,k0⟩:=hone_of hone 0 f0 rfl;obtain⟨o1,k1⟩:=hone_of hone 1 f1 rfl;obtain⟨o2,k2⟩:=hone_of hone 2 f2 rfl;obtain⟨o3,k3⟩:=hone_of hone 3 f3 rfl
   match xs,hl with
   | [y0,y1,y2,y3],_=>
     have g0:DataW.trod enc P W base spare held n f0.type [c0]=some y0:=by simpa [Value.cells,o0,k0] using hg 0 f0 rfl
     have g1:DataW.trod enc P W base spare held n f1.type [c1]=some y1:=by simpa [Value.cells,o1,k1] using hg 1 f1 rfl
     have g2:DataW.trod enc P W base spare held n f2.type [c2]=some y2:=by simpa [Value.cells,o2,k2] using hg 2 f2 rfl
     have g3:DataW.trod enc P W base spare held n f3.type [c3]=some y3:=by simpa [Value.cells,o3,k3] using hg 3 f3 rfl
     obtain⟨n0,e0,_,w0⟩:=DataW.trod_int h0 g0;obtain⟨n1,e1,_,w1⟩:=DataW.trod_int h1 g1;obtain⟨n2,e2,_,w2⟩:=DataW.trod_int h2 g2;obtain⟨n3,e3,_,w3⟩:=DataW.trod_int h3 g3;simp at e0 e1 e2 e3;subst e0;subst e1;subst e2;subst e3;exact⟨⟨n0,n1,n2,n3⟩,⟨Dzd w0,Dzd w1,Dzd w2,Dzd w3⟩,rfl⟩
theorem Jz7 {α:Type} [Inhabited α] {n:Nat} {p:Nat→α→Prop} (h:∀ i,i<n→∃ x,p i x):∃ l:List α,l.length=n∧∀ i (hi:i<l.length),p i l[i]:=by
 obtain⟨f,hf⟩:=choose_lt h;exact⟨(List.range n).map f,by simp,fun i hi=>by simpa using hf i (by simpa using hi)⟩
theorem open_code' {W:World} {base:Nat} {spare:Nat→Bool} {held:Bool} {t e:TypeId} {f0 f1 f2 f3:Field} {v:Value} {y:DataW H × List MemPlace} {fuel:Nat}
  (ht:P.underlying t=some (.slice e)) (he:P.underlying e=some (.struct #[f0,f1,f2,f3])) (hone:oneCellFields P #[f0,f1,f2,f3]=true) (hC:P.cellsOf e=4)
  (h0:P.underlying f0.type=some (.int .i64)) (h1:P.underlying f1.type=some (.int .i64)) (h2:P.underlying f2.type=some (.int .i64)) (h3:P.underlying f3.type=some (.int .i64))
  (h:DataW.trod enc P W base spare held fuel t [v]=some y):
  ∃ (A:Option Addr) (c:Nat) (l:List Ins),v= .slice A l.length c∧l.length≤c∧c≤maxLen∧(A=none→l.length=0∧c=0)∧RdI W W.heap.size A l∧∀ i∈l,i.wf:=by
 obtain⟨A,n,c,rfl,hn,hc,hnil,hx⟩:=Nzi ht hC (by omega) h;by_cases hn0:0<n
 ·obtain⟨b,o,rfl,hb,hi⟩:=hx hn0
  obtain⟨l,hl,hp⟩:=Jz7 (α:=Ins) (n:=n) (p:=fun i x=>x.wf∧W.cell? ⟨b,o+i*4,none⟩=some (.int .i64 x.op)∧W.cell? ⟨b,o+i*4+1,none⟩=some (.int .i64 x.a)∧
    W.cell? ⟨b,o+i*4+2,none⟩=some (.int .i64 x.b)∧W.cell? ⟨b,o+i*4+3,none⟩=some (.int .i64 x.c)) (fun i hin=>by
   obtain⟨cs,fuel,y,hlen,hcell,htr⟩:=hi i hin;obtain⟨x,hw,rfl⟩:=Lzx he hone h0 h1 h2 h3 hlen htr;exact⟨x,hw,hcell 0 (by omega),hcell 1 (by omega),hcell 2 (by omega),hcell 3 (by omega)⟩)
  subst hl;refine⟨_,c,l,rfl,hn,hc,hnil,fun _=>⟨b,o,rfl,hb,fun k hk=>(hp k hk).2⟩,fun i hi'=>?_⟩;obtain⟨k,hk,rfl⟩:=List.mem_iff_getElem.1 hi';exact(hp k hk).1
 ·obtain rfl:n=0:=by omega
  exact⟨A,c,[],rfl,hn,hc,hnil,fun h=>absurd h (by simp),fun i hi=>by cases hi⟩
theorem Szj {W:World} {base:Nat} {spare:Nat→Bool} {held:Bool} {t e:TypeId} {f0 f1 f2 f3:Field} {v:Value} {d:DataW H} {p:List MemPlace} {r:Reach} {b0:Nat}
  (ht:P.underlying t=some (.slice e)) (he:P.underlying e=some (.struct #[f0,f1,f2,f3])) (hone:oneCellFields P #[f0,f1,f2,f3]=true) (hC:P.cellsOf e=4)
  (h0:P.underlying f0.type=some (.int .i64)) (h1:P.underlying f1.type=some (.int .i64)) (h2:P.underlying f2.type=some (.int .i64)) (h3:P.underlying f3.type=some (.int .i64))
  (hv:Value.okWide P W r b0 t v) (h:DataW.Trod enc P W base spare held t v d p):
  ∃ (A:Option Addr) (c:Nat) (l:List Ins),v= .slice A l.length c∧l.length≤c∧c≤maxLen∧(A=none→l.length=0∧c=0)∧RdI W W.heap.size A l∧∀ i∈l,i.wf:=by
 obtain⟨fuel,hf⟩:=Iz0 ht hv h;exact open_code' ht he hone hC h0 h1 h2 h3 hf
end
open Go.RowKit
def Rd (w:World) (B size:Nat) (A:Option Addr) (n:Nat) (xs:List Value):Prop:=
 xs.length=n*size∧(0<n→∃ b o,A=some ⟨b,o,none⟩∧b<B∧∀ j u,xs[j]? =some u→w.cell? ⟨b,o+j,none⟩=some u)
theorem Rd.keep {w w':World} {B size n:Nat} {A:Option Addr} {xs:List Value} (h:Rd w B size A n xs) (hk:∀ p:Addr,p.block<B→w'.cell? p=w.cell? p):Rd w' B size A n xs:=
 ⟨h.1,fun hn=>by
   obtain⟨b,o,e,hb,hc⟩:=h.2 hn;exact⟨b,o,e,hb,fun j u hu=>(hk _ hb).trans (hc j u hu)⟩⟩
theorem Rd.below {w w':World} {B size n:Nat} {A:Option Addr} {xs:List Value} (h:Rd w B size A n xs) (hb:Below B w w'):Rd w' B size A n xs:=h.keep fun _ hp=>hb.cell hp
theorem Rd.more {w:World} {B B' size n:Nat} {A:Option Addr} {xs:List Value} (h:Rd w B size A n xs) (hB:B≤B'):Rd w B' size A n xs:=
 ⟨h.1,fun hn=>by
   obtain⟨b,o,e,hb,hc⟩:=h.2 hn;exact⟨b,o,e,by omega,hc⟩⟩
theorem add_plain (b o j:Nat):(⟨b,o,none⟩:Addr).add j=⟨b,o+j,none⟩:=by unfold Addr.add;split<;>simp_all
section
variable {P:Program} (w:World)
theorem Ezh (base:Nat) (t ty e:TypeId) (i:TypeInfo) (z:Value) (size bytes:Nat) (ht:P.underlying t=some (.slice e)) (hi:P.info? e=some i) (hz:i.zero=some z)
  (hsize:i.size=size) (hby:i.bytes=bytes) (hzs:z.cells.size=size) (hsz:0<size)
  (v:Value) (n:Nat) (xs:List Value) (hown:w.ownsRow base e size v n xs)
  (B:Nat) (A:Option Addr) (m c:Nat) (news:List Value) (hr:Rd w B size A m news) (h1:∀ u∈news,u.oneCell'=true)
  (h63:n+m≤maxLen) (hbytes:(n+m)*bytes≤140737488355328) (hbase:base≤w.heap.size):
  ∃ v' w',(Builtin.append_ #[t,t] ty #[v, .slice A m c]).run P w= .ok v' w'∧w'.ownsRow base e size v' (n+m) (xs++news)∧w.grownBy w' v.ownBlock∧
   (v'.ownBlock=v.ownBlock∨v'.ownBlock=some w.heap.size):=by
 rcases Nat.eq_zero_or_pos m with h0|h0
 ·subst h0
  have hn:news=[]:=List.eq_nil_of_length_eq_zero (by simpa using hr.1);subst hn;cases A with
  | none=>
    refine⟨v,w,?_,by simpa using hown,World.grownBy.refl w _, .inl rfl⟩;rcases hown.2 with⟨rfl,rfl⟩|⟨g,cap,cur,rfl,_,_,hnc,_⟩
    ·simp[Builtin.append_,run_underlying ht,sizeOf,typeInfo,hi,Builtin.lenOf,Builtin.firstCells]
    ·simp[Builtin.append_,run_underlying ht,sizeOf,typeInfo,hi,Builtin.lenOf,Builtin.firstCells,hnc,storeCells]
  | some ad=>
    obtain⟨v',w',hrun,h2,h3,_,h5⟩:=run_append_own_at (P:=P) w base t ty e i z size bytes ht hi hz hsize hby hzs hsz v n xs hown ad 0 c [] (by simp) (by simp) (by simp) h63 hbytes hbase;exact⟨v',w',hrun,h2,h3,h5⟩
 ·obtain⟨b,o,rfl,_,hc⟩:=hr.2 h0
  obtain⟨v',w',hrun,h2,h3,_,h5⟩:=run_append_own_at (P:=P) w base t ty e i z size bytes ht hi hz hsize hby hzs hsz v n xs hown ⟨b,o,none⟩ m c news hr.1 (fun j u hj=>by rw[add_plain];exact hc j u hj) h1 h63 hbytes hbase;exact⟨v',w',hrun,h2,h3,h5⟩
theorem Az4 {ops:Array Oper} {rest:List Oper} {o:Oper} {a:Act} {Q:Exit→Act→World→Prop} (hgd:o.guard=none) (s x:Operand) (t:TypeId)
  (ho:o.op= .call { callee:= .builtin .append,args:= #[s,x],argTypes:= #[t,t] })
  (base:Nat) (e:TypeId) (i:TypeInfo) (z:Value) (size bytes:Nat) (ht:P.underlying t=some (.slice e)) (hi:P.info? e=some i) (hz:i.zero=some z)
  (hsize:i.size=size) (hby:i.bytes=bytes) (hzs:z.cells.size=size) (hsz:0<size)
  (v:Value) (n:Nat) (xs:List Value) (hs:a.eval s=v) (hown:w.ownsRow base e size v n xs)
  (B:Nat) (A:Option Addr) (m c:Nat) (news:List Value) (hx:a.eval x= .slice A m c) (hr:Rd w B size A m news) (h1:∀ u∈news,u.oneCell'=true)
  (h63:n+m≤maxLen) (hbytes:(n+m)*bytes≤140737488355328) (hbase:base≤w.heap.size)
  (h:∀ v' w',w'.ownsRow base e size v' (n+m) (xs++news)→w.grownBy w' v.ownBlock→(v'.ownBlock=v.ownBlock∨v'.ownBlock=some w.heap.size)→wpList P ops Q rest (a.put o.dst v') w'):wpList P ops Q (o::rest) a w:=
 wpList_plain hgd fun K hK=>by
  obtain⟨v',w',hrun,h2,h3,h4⟩:=Ezh (P:=P) w base t o.type e i z size bytes ht hi hz hsize hby hzs hsz v n xs hown B A m c news hr h1 h63 hbytes hbase;unfold Oper.wp execOp;simp only[ho,resolve,invoke,builtin,Sem.run_bind,Sem.run_pure,Result.andThen_ok,List.map_toArray,List.map_cons,List.map_nil,hs,hx,hrun];exact hK _ _ (h v' w' h2 h3 h4)
end
theorem Az5 {w:World} {base:Nat} {e:TypeId} {size:Nat} {v:Value} {n:Nat} {xs:List Value} (h:w.ownsRow base e size v n xs):∃ A c,v= .slice A n c:=by
 rcases h.2 with⟨rfl,rfl⟩|⟨g,cap,cur,rfl,_⟩
 ·exact⟨none,0,rfl⟩
 ·exact⟨_,_,rfl⟩
theorem own_base {w:World} {base B:Nat} {e:TypeId} {size:Nat} {v:Value} {n:Nat} {xs:List Value} (h:w.ownsRow base e size v n xs) (hB:B≤base):w.ownsRow B e size v n xs:=by
 refine⟨h.1,?_⟩;rcases h.2 with h2|⟨g,cap,cur,hv,hg,r⟩
 ·exact .inl h2
 ·exact .inr ⟨g,cap,cur,hv,Nat.le_trans hB hg,r⟩
theorem own_below {w w':World} {base:Nat} {e:TypeId} {size:Nat} {v:Value} {n:Nat} {xs:List Value} (h:w.ownsRow base e size v n xs) (hb:Below w.heap.size w w'):w'.ownsRow base e size v n xs:=
 h.kept (row:=none) ⟨hb.os,hb.tape,hb.output,hb.size,fun k hk _=>hb.block k hk⟩ (by cases hv:v.ownBlock<;>simp)
def Az1 (l:List Ins):List Value:=l.flatMap fun i=>[.int .i64 i.op, .int .i64 i.a, .int .i64 i.b, .int .i64 i.c]
def intCells (l:List Int):List Value:=l.map (Value.int .i64)
theorem Cz9 (l:List Ins):(Az1 l).length=l.length*4:=by
 induction l with
 | nil=>rfl
 | cons i r ih=>simp[Az1] at ih ⊢;omega
theorem Gz0 (l:List Ins):∀ (k:Nat) (h:k<l.length),(Az1 l)[k*4]? =some (.int .i64 l[k].op)∧(Az1 l)[k*4+1]? =some (.int .i64 l[k].a)∧(Az1 l)[k*4+2]? =some (.int .i64 l[k].b)∧(Az1 l)[k*4+3]? =some (.int .i64 l[k].c):=by
 induction l with
 | nil=>intro k h;cases h
 | cons i r ih=>
   intro k h;have hc:Az1 (i::r)=[.int .i64 i.op, .int .i64 i.a, .int .i64 i.b, .int .i64 i.c]++Az1 r:=by simp[Az1]
   rw[hc];cases k with
   | zero=>exact⟨rfl,rfl,rfl,rfl⟩
   | succ k=>
     have h4:∀ j,([.int .i64 i.op, .int .i64 i.a, .int .i64 i.b, .int .i64 i.c]++Az1 r:List Value)[(k+1)*4+j]? =(Az1 r)[k*4+j]? :=fun j=>by
      rw[List.getElem?_append_right (by simp;omega)]
      congr 1
      simp;omega
     have:=ih k (by simpa using h);exact⟨(h4 0).trans this.1,(h4 1).trans this.2.1,(h4 2).trans this.2.2.1,(h4 3).trans this.2.2.2⟩
theorem RdI.rd {w:World} {B:Nat} {A:Option Addr} {l:List Ins} (h:RdI w B A l):Rd w B 4 A l.length (Az1 l):=
 ⟨Cz9 l,fun hn=>by
   obtain⟨b,o,e,hb,hc⟩:=h hn;refine⟨b,o,e,hb,fun j u hu=>?_⟩;have hj:j<l.length*4:=by rw[←Cz9];exact(List.getElem?_eq_some_iff.1 hu).1
   have hm:∃ q,q<l.length∧(j=q*4∨j=q*4+1∨j=q*4+2∨j=q*4+3):=⟨j / 4,by omega,by omega⟩;obtain⟨q,hq,hm⟩:=hm;obtain⟨x0,x1,x2,x3⟩:=Gz0 l q hq;obtain⟨c0,c1,c2,c3⟩:=hc q hq;rcases hm with h|h|h|h<;>subst h
   ·rw[x0] at hu;cases hu;exact c0
   ·rw[x1] at hu;cases hu;exact c1
   ·rw[x2] at hu;cases hu;exact c2
   ·rw[x3] at hu;cases hu;exact c3⟩
theorem Gz1 (l:List Int) (k:Nat) (h:k<l.length):(intCells l)[k]? =some (.int .i64 l[k]):=by simp[intCells,h]
theorem RdN.rd {w:World} {B:Nat} {A:Option Addr} {l:List Int} (h:RdN w B A l):Rd w B 1 A l.length (intCells l):=
 ⟨by simp[intCells],fun hn=>by
   obtain⟨b,o,e,hb,hc⟩:=h hn;refine⟨b,o,e,hb,fun j u hu=>?_⟩;have hj:j<l.length:=by simpa [intCells] using(List.getElem?_eq_some_iff.1 hu).1
   rw[Gz1 l j hj] at hu;cases hu;exact hc j hj⟩
theorem Azh (l:List Ins):∀ u∈Az1 l,u.oneCell'=true:=by
 intro u hu;simp only[Az1,List.mem_flatMap] at hu;obtain⟨i,_,hu⟩:=hu;simp at hu;rcases hu with h|h|h|h<;>subst h<;>rfl
theorem Ezv (l:List Int):∀ u∈intCells l,u.oneCell'=true:=by
 intro u hu;simp only[intCells,List.mem_map] at hu;obtain⟨i,_,rfl⟩:=hu;rfl
theorem Rd.of_own {w:World} {base:Nat} {e:TypeId} {size n c:Nat} {A:Option Addr} {xs:List Value} (h:w.ownsRow base e size (.slice A n c) n xs):Rd w w.heap.size size A n xs:=by
 refine⟨h.1,fun hn=>?_⟩;obtain⟨g,cap,hv,_,hlt⟩:=h.form hn;have hA:A=some ⟨g,0,none⟩:=by injection hv
 subst hA;refine⟨g,0,rfl,hlt,fun j u hu=>?_⟩;have:=h.cells (g:=g) rfl j u hu
 rwa [add_plain] at this
theorem RdI.of {w:World} {B:Nat} {A:Option Addr} {l:List Ins} (h:Rd w B 4 A l.length (Az1 l)):RdI w B A l:=fun hl=>by
 obtain⟨b,o,e,hb,hc⟩:=h.2 hl;refine⟨b,o,e,hb,fun k hk=>?_⟩;obtain⟨x0,x1,x2,x3⟩:=Gz0 l k hk;exact⟨hc _ _ x0,hc _ _ x1,hc _ _ x2,hc _ _ x3⟩
theorem RdN.of {w:World} {B:Nat} {A:Option Addr} {l:List Int} (h:Rd w B 1 A l.length (intCells l)):RdN w B A l:=fun hl=>by
 obtain⟨b,o,e,hb,hc⟩:=h.2 hl;exact⟨b,o,e,hb,fun k hk=>hc _ _ (Gz1 l k hk)⟩
end Go.Proofs.YtdjamdbamkhblacDoor
