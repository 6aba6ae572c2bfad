/- A block that is known whole, and how it is kept: no condition. A region that draws its order, walked once by an invariant over what has run so far. No condition. The walk of K.Plain: plain code of raw things. No condition. -/
import Derived.Test.YtdjamdbamkhblacDoorG04
import Derived.RegionTactic
import Derived.Test.YtdjamdbamkhblacDoorG03
set_option maxRecDepth 1000000
namespace Go.Proofs.YtdjamdbamkhblacDoor
open Go.RowKit
def Blk (w:World) (g:Nat) (t:TypeId) (cs:Array Value):Prop:=w.heap[g]? =some (.cells cs t (0,0))
section
variable {w w':World} {g:Nat} {t:TypeId} {cs:Array Value}
theorem Blk.lt (h:Blk w g t cs):g<w.heap.size:=by
 rcases Nat.lt_or_ge g w.heap.size with hlt|hge
 ·exact hlt
 ·unfold Blk at h;rw[Array.getElem?_eq_none hge] at h;cases h
theorem Blk.cell (h:Blk w g t cs) (i:Nat):w.cell? ⟨g,i,none⟩=cs[i]? :=cell_of_row w g i cs t (0,0) h
theorem Blk.frozen (h:Blk w g t cs) (i:Nat):w.frozen? ⟨g,i,none⟩=false:=by
 unfold Blk at h;simp[World.frozen?,h]
theorem Blk.new (w:World) (t:TypeId) (cs:Array Value):Blk (w.alloc (.cells cs t)) w.heap.size t cs:=heap_alloc_new w _
theorem Blk.drew (h:Blk w g t cs):Blk w.drew g t cs:=h
theorem Blk.drewN (h:Blk w g t cs) (n:Nat):Blk (w.drewN n) g t cs:=h
theorem Blk.alloc (h:Blk w g t cs) (o:Obj):Blk (w.alloc o) g t cs:=(Below.heap_alloc w o g h.lt).trans h
theorem Blk.set_ (h:Blk w g t cs) (i:Nat) (u:Value):Blk (w.setCell ⟨g,i,none⟩ u) g t (cs.setIfInBounds i u):=by
 unfold Blk at h ⊢;simp[World.setCell,Array.getElem?_modify,h]
theorem Blk.far (h:Blk w g t cs) {p:Addr} (hp:g≠p.block) (u:Value):Blk (w.setCell p u) g t cs:=(Below.heap_setCell w p u g hp).trans h
theorem Blk.below {B:Nat} (h:Blk w g t cs) (hb:Below B w w') (hg:g<B):Blk w' g t cs:=(hb.block g hg).trans h
theorem Blk.grown {row:Option Nat} (h:Blk w g t cs) (hb:w.grownBy w' row) (hg:some g≠row):Blk w' g t cs:=(hb.block g h.lt hg).trans h
theorem Blk.ne_ {g':Nat} {t':TypeId} {cs':Array Value} (h:Blk w g t cs) (h':Blk w g' t' cs') (hne:t≠t'):g≠g':=by
 rintro rfl;unfold Blk at h h';rw[h] at h';injection h' with h'
 injection h' with _ ht
 exact hne ht
theorem Az9 {base:Nat} {e:TypeId} {size n:Nat} {v:Value} {xs:List Value} (h:w.ownsRow base e size v n xs) (hg:Blk w g t cs) (hne:e≠t):v.ownBlock≠some g:=by
 rcases h.2 with⟨rfl,_⟩|⟨g',cap,cur,rfl,_,hh,_⟩
 ·simp[Value.ownBlock]
 ·intro he
  have:g'=g:=by simpa [Value.ownBlock] using he
  subst this;exact Blk.ne_ (t:=e) hh hg hne rfl
theorem Blk.rd (h:Blk w g t cs) (n size:Nat) (hn:n*size≤cs.size):Rd w w.heap.size size (some ⟨g,0,none⟩) n (cs.toList.take (n*size)):=by
 refine⟨by rw[List.length_take,Array.length_toList,Nat.min_eq_left hn],fun _=>⟨g,0,rfl,h.lt,fun j u hu=>?_⟩⟩;rw[Nat.zero_add,h.cell];rw[List.getElem?_take] at hu;split at hu
 ·simpa using hu
 ·cases hu
end
theorem Blk.new' {w:World} {n:Nat} {t:TypeId} {cs:Array Value} (h:n=w.heap.size):Blk (w.alloc (.cells cs t)) n t cs:=by subst h;exact Blk.new w t cs
def lay5 (w:World) (b:Nat) (u0 u1 u2 u3 u4:Value):World:=((((w.setCell ⟨b,0,none⟩ u0).setCell ⟨b,1,none⟩ u1).setCell ⟨b,2,none⟩ u2).setCell ⟨b,3,none⟩ u3).setCell ⟨b,4,none⟩ u4
theorem Pz9 (w:World) (b:Nat) (u0 u1 u2 u3 u4:Value) (q:Nat) (h:q≠b):(lay5 w b u0 u1 u2 u3 u4).heap[q]? =w.heap[q]? :=by
 unfold lay5;rw[Below.heap_setCell _ _ _ _ h,Below.heap_setCell _ _ _ _ h,Below.heap_setCell _ _ _ _ h,Below.heap_setCell _ _ _ _ h,Below.heap_setCell _ _ _ _ h]
theorem Ezw {B:Nat} {a w:World} (h:Below B a w) (u0 u1 u2 u3 u4:Value):Below B a (lay5 w B u0 u1 u2 u3 u4):=by
 unfold lay5;have h0:=h.setCell (p:=⟨B,0,none⟩) (Nat.le_refl _) u0;have h1:=h0.setCell (p:=⟨B,1,none⟩) (Nat.le_refl _) u1;have h2:=h1.setCell (p:=⟨B,2,none⟩) (Nat.le_refl _) u2;have h3:=h2.setCell (p:=⟨B,3,none⟩) (Nat.le_refl _) u3;exact h3.setCell (p:=⟨B,4,none⟩) (Nat.le_refl _) u4
theorem Azm (w:World) (p:Addr) (u:Value):w.grownBy (w.setCell p u) (some p.block):=
 ⟨rfl,rfl,rfl,by simp,fun q _ hne=>Below.heap_setCell w p u q (fun e=>hne (by rw[e]))⟩
theorem Azy (w:World) (b:Nat) (u0 u1 u2 u3 u4:Value):w.grownBy (lay5 w b u0 u1 u2 u3 u4) (some b):=by
 unfold lay5;exact((((Azm w ⟨b,0,none⟩ u0).trans (Azm _ ⟨b,1,none⟩ u1)).trans (Azm _ ⟨b,2,none⟩ u2)).trans (Azm _ ⟨b,3,none⟩ u3)).trans (Azm _ ⟨b,4,none⟩ u4)
theorem Blk.lay5 {w:World} {b:Nat} {t:TypeId} {cs:Array Value} (h:Blk w b t cs) (hs:cs.size=5) (u0 u1 u2 u3 u4:Value):Blk (lay5 w b u0 u1 u2 u3 u4) b t #[u0,u1,u2,u3,u4]:=by
 have e:((((cs.setIfInBounds 0 u0).setIfInBounds 1 u1).setIfInBounds 2 u2).setIfInBounds 3 u3).setIfInBounds 4 u4= #[u0,u1,u2,u3,u4]:=by
  match cs,hs with
  | ⟨[x0,x1,x2,x3,x4]⟩,_=>rfl
 have h1:=h.set_ 0 u0;have h2:=h1.set_ 1 u1;have h3:=h2.set_ 2 u2;have h4:=h3.set_ 3 u3;have h5:=h4.set_ 4 u4;rw[e] at h5;unfold Go.Proofs.YtdjamdbamkhblacDoor.lay5;exact h5
theorem Ez7 {P:Program} (w:World) (t e:TypeId) (z:Value) (size bytes n:Nat) (ht:P.underlying t=some (.slice e)) (hinfo:(P.info? e).map (fun i=>(i.zero,i.size,i.bytes))=some (some z,size,bytes))
  (hb:bytes*n≤281474976710656) (hn:n≤9223372036854775807):
  (Instr.makeSlice t (.int .i64 (n:Int)) (.int .i64 (n:Int))).run P w= .ok (.slice (some ⟨w.heap.size,0,none⟩) n n) (w.alloc (.cells (madeCells z.cells (n*size)) e)):=by
 obtain⟨i,hi,hz,hs,hby⟩:=info_parts hinfo;have h1:(i.bytes:Int)*(n:Int)≤281474976710656:=by
  rw[hby];have:((bytes*n:Nat):Int)≤((281474976710656:Nat):Int):=Int.ofNat_le.2 hb;rw[Int.natCast_mul] at this;exact this
 have h2:=run_make w t e i z ht hi hz .i64 .i64 (n:Int) (n:Int) (by omega) (by omega) h1 (by omega);rw[hs] at h2;exact h2
theorem Blk.a2 {w:World} {q:Nat} {t:TypeId} {cs:Array Value} (h:Blk w q t cs):w.cell? ⟨q,0,none⟩=cs[0]? ∧w.cell? ⟨q,1,none⟩=cs[1]? ∧w.frozen? ⟨q,0,none⟩=false∧w.frozen? ⟨q,1,none⟩=false∧q<w.heap.size:=⟨h.cell 0,h.cell 1,h.frozen 0,h.frozen 1,h.lt⟩
theorem Blk.a3 {w:World} {q:Nat} {t:TypeId} {cs:Array Value} (h:Blk w q t cs):w.cell? ⟨q,0,none⟩=cs[0]? ∧w.cell? ⟨q,1,none⟩=cs[1]? ∧w.cell? ⟨q,2,none⟩=cs[2]? ∧w.frozen? ⟨q,0,none⟩=false∧w.frozen? ⟨q,1,none⟩=false∧w.frozen? ⟨q,2,none⟩=false∧q<w.heap.size:=⟨h.cell 0,h.cell 1,h.cell 2,h.frozen 0,h.frozen 1,h.frozen 2,h.lt⟩
theorem Blk.a4 {w:World} {q:Nat} {t:TypeId} {cs:Array Value} (h:Blk w q t cs):w.cell? ⟨q,0,none⟩=cs[0]? ∧w.cell? ⟨q,1,none⟩=cs[1]? ∧w.cell? ⟨q,2,none⟩=cs[2]? ∧w.cell? ⟨q,3,none⟩=cs[3]? ∧w.frozen? ⟨q,0,none⟩=false∧w.frozen? ⟨q,1,none⟩=false∧w.frozen? ⟨q,2,none⟩=false∧w.frozen? ⟨q,3,none⟩=false∧q<w.heap.size:=⟨h.cell 0,h.cell 1,h.cell 2,h.cell 3,h.frozen 0,h.frozen 1,h.frozen 2,h.frozen 3,h.lt⟩
theorem Blk.a5 {w:World} {q:Nat} {t:TypeId} {cs:Array Value} (h:Blk w q t cs):w.cell? ⟨q,0,none⟩=cs[0]? ∧w.cell? ⟨q,1,none⟩=cs[1]? ∧w.cell? ⟨q,2,none⟩=cs[2]? ∧w.cell? ⟨q,3,none⟩=cs[3]? ∧w.cell? ⟨q,4,none⟩=cs[4]? ∧w.frozen? ⟨q,0,none⟩=false∧w.frozen? ⟨q,1,none⟩=false∧w.frozen? ⟨q,2,none⟩=false∧w.frozen? ⟨q,3,none⟩=false∧w.frozen? ⟨q,4,none⟩=false∧q<w.heap.size:=⟨h.cell 0,h.cell 1,h.cell 2,h.cell 3,h.cell 4,h.frozen 0,h.frozen 1,h.frozen 2,h.frozen 3,h.frozen 4,h.lt⟩
theorem Blk.a11 {w:World} {q:Nat} {t:TypeId} {cs:Array Value} (h:Blk w q t cs):w.cell? ⟨q,0,none⟩=cs[0]? ∧w.cell? ⟨q,1,none⟩=cs[1]? ∧w.cell? ⟨q,2,none⟩=cs[2]? ∧w.cell? ⟨q,3,none⟩=cs[3]? ∧w.cell? ⟨q,4,none⟩=cs[4]? ∧w.cell? ⟨q,5,none⟩=cs[5]? ∧w.cell? ⟨q,6,none⟩=cs[6]? ∧w.cell? ⟨q,7,none⟩=cs[7]? ∧w.cell? ⟨q,8,none⟩=cs[8]? ∧w.cell? ⟨q,9,none⟩=cs[9]? ∧w.cell? ⟨q,10,none⟩=cs[10]? ∧w.frozen? ⟨q,0,none⟩=false∧w.frozen? ⟨q,1,none⟩=false∧w.frozen? ⟨q,2,none⟩=false∧w.frozen? ⟨q,3,none⟩=false∧w.frozen? ⟨q,4,none⟩=false∧w.frozen? ⟨q,5,none⟩=false∧w.frozen? ⟨q,6,none⟩=false∧w.frozen? ⟨q,7,none⟩=false∧w.frozen? ⟨q,8,none⟩=false∧w.frozen? ⟨q,9,none⟩=false∧w.frozen? ⟨q,10,none⟩=false∧q<w.heap.size:=⟨h.cell 0,h.cell 1,h.cell 2,h.cell 3,h.cell 4,h.cell 5,h.cell 6,h.cell 7,h.cell 8,h.cell 9,h.cell 10,h.frozen 0,h.frozen 1,h.frozen 2,h.frozen 3,h.frozen 4,h.frozen 5,h.frozen 6,h.frozen 7,h.frozen 8,h.frozen 9,h.frozen 10,h.lt⟩
section
variable {P:Program} {ops:Array Oper} {Q:Exit→Act→World→Prop} {md:Region.Mode}
theorem Ezg {listed:Array Bool} {i:Nat} (h:i∈Region.ready md ops listed):∃ o,ops[i]? =some o∧listed.getD i true=false∧(o.after.all fun e=> !Region.binds md e || listed.getD e.on false)=true:=by
 unfold Region.ready at h;obtain⟨h1,h2⟩:=List.mem_filter.1 h;rw[Bool.and_eq_true] at h2;obtain⟨h3,h4⟩:=h2;cases ho:ops[i]? with
 | none=>rw[ho] at h4;simp at h4
 | some o=>
   rw[ho] at h4;exact⟨o,rfl,by simpa using h3,by simpa using h4⟩
theorem Izl {listed:Array Bool} (hord:∀ (i:Nat) (o:Oper),ops[i]? =some o→∀ e∈o.after,e.on<i) (h:Region.ready md ops listed=[]):∀ i,i<ops.size→listed.getD i true=true:=by
 intro i
 induction i using Nat.strongRecOn with
 | ind i ih=>
   intro hi;cases hl:listed.getD i true with
   | true=>rfl
   | false=>
     exfalso;have:i∈Region.ready md ops listed:=by
      unfold Region.ready;refine List.mem_filter.2 ⟨List.mem_range.2 hi,?_⟩;obtain⟨o,ho⟩:∃ o,ops[i]? =some o:=⟨_,Array.getElem?_eq_getElem hi⟩;rw[hl,ho];simp only[Bool.not_false,Bool.true_and,Option.map_some,Option.getD_some];rw[Array.all_eq_true_iff_forall_mem];intro e he;have h1:=hord i o ho e he;have h2:=ih e.on h1 (by omega);have h3:listed.getD e.on false=true:=by
       rw[Array.getD_eq_getD_getElem?] at h2 ⊢;cases hx:listed[e.on]? with
       | none=>
         exfalso;rw[Array.getD_eq_getD_getElem?] at hl;cases hy:listed[i]? with
         | none=>rw[hy] at hl;simp at hl
         | some b=>
           have:=(Array.getElem?_eq_some_iff.1 hy).1;have:=Array.getElem?_eq_none_iff.1 hx;omega
       | some b=>rw[hx] at h2;simpa using h2
      rw[h3];simp
     rw[h] at this;cases this
def Czy (listed:Array Bool):Nat:=listed.toList.countP (· == false)
theorem Czh {listed:Array Bool} {i:Nat} (h:listed.getD i true=false):Czy (listed.setIfInBounds i true)+1=Czy listed:=by
 rw[Array.getD_eq_getD_getElem?] at h;cases hy:listed[i]? with
 | none=>rw[hy] at h;simp at h
 | some b=>
   rw[hy] at h;have hb:b=false:=by simpa using h
   subst hb;obtain⟨hi,hv⟩:=Array.getElem?_eq_some_iff.1 hy;unfold Czy;rw[Array.toList_setIfInBounds,List.set_eq_take_append_cons_drop,if_pos (by simpa using hi)];have e:listed.toList=listed.toList.take i++false::listed.toList.drop (i+1):=by
    conv=>lhs;rw[←List.take_append_drop i listed.toList]
    congr 1
    rw[List.drop_eq_getElem_cons (by simpa using hi)]
    congr 1
   conv=>rhs;rw[e]
   simp only[List.countP_append,List.countP_cons];simp;omega
theorem Oz6 (I:Array Bool→Act→World→Prop) (hord:∀ (i:Nat) (o:Oper),ops[i]? =some o→∀ e∈o.after,e.on<i)
  (hstep:∀ (i:Nat) (o:Oper),ops[i]? =some o→∀ listed a w,listed.getD i true=false→(o.after.all fun e=> !Region.binds md e || listed.getD e.on false)=true→I listed a w→
    ∀ K:Act→World→Prop,(∀ a w,I (listed.setIfInBounds i true) a w→K a w)→if Region.wanted o (yielded ops a.tmps)=true then Oper.wp P o a w K Q else K (a.put o.dst undef) w)
  (hend:∀ listed a w,(∀ i,i<ops.size→listed.getD i true=true)→I listed a w→Q .normal a w):
  ∀ (fuel:Nat) (listed:Array Bool) (a:Act) (w:World),Czy listed≤fuel→I listed a w→wpAny P md ops Q fuel listed a w:=by
 intro fuel
 induction fuel with
 | zero=>
   intro listed a w hu hI;have hr:Region.ready md ops listed=[]:=by
    cases hr:Region.ready md ops listed with
    | nil=>rfl
    | cons i r=>
      obtain⟨o,ho,h1,h2⟩:=Ezg (md:=md) (ops:=ops) (listed:=listed) (i:=i) (by rw[hr];simp);have:=Czh h1;omega
   exact⟨hr,hend _ _ _ (Izl hord hr) hI⟩
 | succ fuel ih=>
   intro listed a w hu hI;refine⟨fun hr=>hend _ _ _ (Izl hord hr) hI,fun i hi=>?_⟩;obtain⟨o,ho,h1,h2⟩:=Ezg hi;refine wpOp_step ho fun K' hK'=>?_
   refine hstep i o ho listed a w h1 h2 hI K' fun a' w' hI'=>hK' _ _ (ih _ _ _ ?_ hI')
   have:=Czh h1;omega
theorem Ezn (n:Nat):Czy (Array.replicate n false)≤n:=by
 unfold Czy;refine Nat.le_trans List.countP_le_length ?_;simp
theorem Azj {id:Nat} {a:Act} {w:World} (I:Array Bool→Act→World→Prop) (hm:P.follows .mixedOrders=true) (hord:∀ (i:Nat) (o:Oper),ops[i]? =some o→∀ e∈o.after,e.on<i)
  (h0:I (Array.replicate ops.size false) a w.drew)
  (hstep:∀ (i:Nat) (o:Oper),ops[i]? =some o→∀ listed a w,listed.getD i true=false→(o.after.all fun e=> !Region.binds .any e || listed.getD e.on false)=true→I listed a w→
    ∀ K:Act→World→Prop,(∀ a w,I (listed.setIfInBounds i true) a w→K a w)→if Region.wanted o (yielded ops a.tmps)=true then Oper.wp P o a w K Q else K (a.put o.dst undef) w)
  (hend:∀ listed a w,(∀ i,i<ops.size→listed.getD i true=true)→I listed a w→Q .normal a w):(Code.region id ops true).wp P Q a w:=
 wp_region_any hm (Oz6 I hord hstep hend _ _ _ _ (Ezn _) h0)
def ordB (ops:Array Oper):Bool:=(List.range ops.size).all fun i=>match ops[i]? with
 | some o=>o.after.all fun e=>decide (e.on<i)
 | none=>true
theorem Ez9 (h:ordB ops=true):∀ (i:Nat) (o:Oper),ops[i]? =some o→∀ e∈o.after,e.on<i:=fun i o ho e he=>by
 have hi:i<ops.size:=(Array.getElem?_eq_some_iff.1 ho).1;have:=(List.all_eq_true.1 h) i (List.mem_range.2 hi);rw[ho] at this
 simpa using(Array.all_eq_true_iff_forall_mem.1 this) e he
end
theorem Az2 (listed:Array Bool) (i j:Nat):(listed.setIfInBounds i true).getD j true=(decide (i=j) || listed.getD j true):=by
 rw[Array.getD_eq_getD_getElem?,Array.getD_eq_getD_getElem?,Array.getElem?_setIfInBounds];by_cases h:i=j
 ·subst h
  by_cases h2:i<listed.size<;>simp[h2]
 ·simp[h]
set_option linter.unusedVariables false
set_option linter.unusedSimpArgs false
def Bzs:Code→Option Code
 | .loop c=>some c
 | .seq a b=>match Bzs a with
   | some c=>some c
   | none=>Bzs b
 | .block _ c=>Bzs c
 | .scope c=>Bzs c
 | .cond _ a b=>match Bzs a with
   | some c=>some c
   | none=>Bzs b
 | _=>none
noncomputable def Lzj:Code:=((Tryd.f71.body.bind Bzs).getD .skip)
def pkOf (l:List Ins) (k:Nat):Nat:=pick (l.getD k default).op 14
theorem Rza (l:List Ins) (k:Nat):pkOf l k<14:=Bz5 _ (by omega)
def PWI (w0:World) (c n:Nat) (A:Option Addr) (l:List Ins) (a:Act) (w':World):Prop:=
 a.defers=[]∧a.tmps.size=119∧a.tmps[0]? =some (.slice A l.length c)∧a.tmps[3]? =some (.int .i64 (n:Int))∧a.tmps[11]? =some (.int .i64 (n:Int))∧
  ∃ (k:Nat) (V:Value),a.tmps[12]? =some (.int .i64 (k:Int))∧a.tmps[4]? =some V∧k≤n∧w'.ownsRow w0.heap.size 65 4 V k (Az1 (Aze l n k))∧Below w0.heap.size w0 w'
def pmu (n:Nat) (a:Act) (_:World):Nat:=match a.tmps[12]? with
 | some (Value.int _ k)=>n - k.toNat
 | _=>0
def PWX (w0:World) (c n:Nat) (A:Option Addr) (l:List Ins) (a:Act) (w':World):Prop:=
 a.defers=[]∧a.tmps.size=119∧a.tmps[0]? =some (.slice A l.length c)∧∃ V:Value,a.tmps[4]? =some V∧w'.ownsRow w0.heap.size 65 4 V n (Az1 (Aze l n n))∧Below w0.heap.size w0 w'
theorem Jzs (t:Array Value) (h:t.size=119):∃ u:Nat→Value,t= #[u 0,u 1,u 2,u 3,u 4,u 5,u 6,u 7,u 8,u 9,u 10,u 11,u 12,u 13,u 14,u 15,u 16,u 17,u 18,u 19,u 20,u 21,u 22,u 23,u 24,u 25,u 26,u 27,u 28,u 29,u 30,u 31,u 32,u 33,u 34,u 35,u 36,u 37,u 38,u 39,u 40,u 41,u 42,u 43,u 44,u 45,u 46,u 47,u 48,u 49,u 50,u 51,u 52,u 53,u 54,u 55,u 56,u 57,u 58,u 59,u 60,u 61,u 62,u 63,u 64,u 65,u 66,u 67,u 68,u 69,u 70,u 71,u 72,u 73,u 74,u 75,u 76,u 77,u 78,u 79,u 80,u 81,u 82,u 83,u 84,u 85,u 86,u 87,u 88,u 89,u 90,u 91,u 92,u 93,u 94,u 95,u 96,u 97,u 98,u 99,u 100,u 101,u 102,u 103,u 104,u 105,u 106,u 107,u 108,u 109,u 110,u 111,u 112,u 113,u 114,u 115,u 116,u 117,u 118]:=by
 refine⟨fun i=>t.getD i undef,?_⟩;have e:t=((List.range 119).map fun i=>t.getD i undef).toArray:=by
  apply Array.ext
  ·simp[h]
  ·intro i h1 h2
   simp[Array.getD_eq_getD_getElem?,h1]
 exact e
def Gzo (n k pk pa pb pc q80 q9 q12 q3 qn qm:Nat):Ins:=
 if pk=0 then ⟨1,(pa:Nat),0,(q80:Nat)⟩
 else if pk=7∨pk=8 then ⟨1+(pk:Nat),(pa:Nat),(pb:Nat),0⟩
 else if pk=9∨pk=11 then (if q9=0 then ⟨12,0,0,((k+qn:Nat):Int)⟩ else ⟨11,(pa:Nat),0,((k+qn:Nat):Int)⟩)
 else if pk=10 then ⟨11,(pa:Nat),0,if q12=0 then (qm:Nat) else ((k+qn:Nat):Int)⟩
 else if pk=12 then (if 0<q3 then ⟨2,1,2,3⟩ else ⟨13,0,0,0⟩)
 else if pk=13 then ⟨14,(pa:Nat),0,0⟩
 else ⟨1+(pk:Nat),(pa:Nat),(pb:Nat),(pc:Nat)⟩
theorem Nzl (n k:Nat) (rk ra rb rc:Int):Dzo n k ⟨rk,ra,rb,rc⟩=Gzo n k (pick rk 14) (pick ra 4) (pick rb 4) (pick rc 4) (pick rc 80) (pick rb 9) (pick rb 12) (pick rc 3) (pick rc (n+1 - k)) (pick rc (n+1)):=rfl
structure PS (w0 wx:World) (l:List Ins) (n k:Nat) (V:Value) (g6:Nat) (cr:Array Value):Prop where
 own:wx.ownsRow w0.heap.size 65 4 V k (Az1 (Aze l n k))
 below:Below w0.heap.size w0 wx
 raw:Blk wx g6 23 cr
structure PI (w0 wx:World) (V:Value) (g:Nat) (ci:Array Value):Prop where
 ins:Blk wx g 65 ci
 ne:some g≠V.ownBlock
 lo:w0.heap.size≤g
def pt (g i:Nat):Value:= .pointer (some ⟨g,i,none⟩)
theorem Azi {l:Array Bool} {j:Nat} (h:l[j]?.getD false=true):l.getD j true=true:=by
 rw[Array.getD_eq_getD_getElem?];cases hj:l[j]? with
 | none=>rfl
 | some b=>rw[hj] at h;exact h
theorem upeq {l:Array Bool} {i j:Nat} (h:i≠j):(l.setIfInBounds i true).getD j true=l.getD j true:=by rw[Az2];simp[h]
theorem upne {l:Array Bool} {i j:Nat} (h:i≠j) (x:(l.setIfInBounds i true).getD j true=true):l.getD j true=true:=by rw[upeq h] at x;exact x
theorem Oz3 {l:Array Bool} {i:Nat}:(l.setIfInBounds i true).getD i true=true:=by rw[Az2];simp
structure PJ (w0:World) (V:Value) (g6:Nat) (rk ra rb rc:Int) (pk pa pb pc:Nat) (listed:Array Bool) (W:World) (u7 y19 y20 y21 y22 y23 y24 y25 y26 y27 y28 y29 y30 y31 y32:Value):Prop where
 f0:listed.getD 0 true=true→y19=pt g6 0
 f1:listed.getD 1 true=true→y20= .int .i64 rk
 f2:listed.getD 2 true=true→y21= .int .i64 (pk:Int)
 f3:listed.getD 3 true=true→y22= .int .i64 (1+(pk:Int))
 f4:listed.getD 4 true=true→y23=pt g6 1
 f5:listed.getD 5 true=true→y24= .int .i64 ra
 f6:listed.getD 6 true=true→y25= .int .i64 (pa:Int)
 f7:listed.getD 7 true=true→y26=pt g6 2
 f8:listed.getD 8 true=true→y27= .int .i64 rb
 f9:listed.getD 9 true=true→y28= .int .i64 (pb:Int)
 f10:listed.getD 10 true=true→y29=pt g6 3
 f11:listed.getD 11 true=true→y30= .int .i64 rc
 f12:listed.getD 12 true=true→y31= .int .i64 (pc:Int)
 f13:listed.getD 13 true=true→y32= .agg #[.int .i64 (1+(pk:Int)), .int .i64 (pa:Int), .int .i64 (pb:Int), .int .i64 (pc:Int)]
 f14:listed.getD 14 true=true→∃ g,u7=pt g 0∧PI w0 W V g (if listed.getD 15 true=true then #[.int .i64 (1+(pk:Int)), .int .i64 (pa:Int), .int .i64 (pb:Int), .int .i64 (pc:Int)] else #[.int .i64 0, .int .i64 0, .int .i64 0, .int .i64 0])
 f15:listed.getD 15 true=true→listed.getD 14 true=true
theorem PS.set {w0 wx:World} {l:List Ins} {n k:Nat} {V:Value} {g6:Nat} {cr ci:Array Value} {g:Nat} (h:PS w0 wx l n k V g6 cr) (hp:PI w0 wx V g ci) (i:Nat) (u:Value):PS w0 (wx.setCell ⟨g,i,none⟩ u) l n k V g6 cr:=
 ⟨h.own.kept (Azm wx ⟨g,i,none⟩ u) (.inr fun e=>hp.ne e.symm),h.below.setCell (p:=⟨g,i,none⟩) hp.lo u,h.raw.far (p:=⟨g,i,none⟩) (h.raw.ne_ hp.ins (by decide)) u⟩
theorem PI.set {w0 wx:World} {V:Value} {g:Nat} {ci:Array Value} (h:PI w0 wx V g ci) (i:Nat) (u:Value):PI w0 (wx.setCell ⟨g,i,none⟩ u) V g (ci.setIfInBounds i u):=⟨h.ins.set_ i u,h.ne,h.lo⟩
theorem PS.new {w0 wx:World} {l:List Ins} {n k:Nat} {V:Value} {g6:Nat} {cr:Array Value} (h:PS w0 wx l n k V g6 cr) (o:Obj):PS w0 (wx.alloc o) l n k V g6 cr:=⟨h.own.alloc o,h.below.alloc h.below.size o,h.raw.alloc o⟩
theorem PI.new {w0 wx:World} {l:List Ins} {n k:Nat} {V:Value} {g6:Nat} {cr:Array Value} (h:PS w0 wx l n k V g6 cr) (ci:Array Value):PI w0 (wx.alloc (.cells ci 65)) V wx.heap.size ci:=⟨Blk.new wx _ _,fun e=>by have:=(h.own.lt wx.heap.size e.symm).2;omega,h.below.size⟩
theorem Fzz:(Tryd.prog.info? 65).map (fun i=>(i.zero,i.size,i.bytes))=some (some (.agg #[.int .i64 0, .int .i64 0, .int .i64 0, .int .i64 0]),4,32):=by kernel_rfl
theorem Ez6 (a b:List Ins):Az1 (a++b)=Az1 a++Az1 b:=by simp[Az1]
structure PX (w0 wx:World) (l:List Ins) (n k:Nat) (V:Value) (g6:Nat) (cr:Array Value) (g:Nat) (ci:Array Value):Prop where
 ps:PS w0 wx l n k V g6 cr
 pi:PI w0 wx V g ci
theorem PX.set {w0 wx:World} {l:List Ins} {n k:Nat} {V:Value} {g6:Nat} {cr ci:Array Value} {g:Nat} (h:PX w0 wx l n k V g6 cr g ci) (i:Nat) (u:Value):PX w0 (wx.setCell ⟨g,i,none⟩ u) l n k V g6 cr g (ci.setIfInBounds i u):=⟨h.ps.set h.pi i u,h.pi.set i u⟩
theorem PX.drew {w0 wx:World} {l:List Ins} {n k:Nat} {V:Value} {g6:Nat} {cr ci:Array Value} {g:Nat} (h:PX w0 wx l n k V g6 cr g ci):PX w0 wx.drew l n k V g6 cr g ci:=⟨⟨h.ps.own,h.ps.below.drew,Blk.drew h.ps.raw⟩,⟨Blk.drew h.pi.ins,h.pi.ne,h.pi.lo⟩⟩
theorem PX.alloc {w0 wx:World} {l:List Ins} {n k:Nat} {V:Value} {g6:Nat} {cr ci:Array Value} {g:Nat} (h:PX w0 wx l n k V g6 cr g ci) (o:Obj):PX w0 (wx.alloc o) l n k V g6 cr g ci:=⟨h.ps.new o,⟨h.pi.ins.alloc o,h.pi.ne,h.pi.lo⟩⟩
def PXE (w0 wx:World) (l:List Ins) (n k:Nat) (V:Value) (g6:Nat) (cr:Array Value) (g:Nat):Prop:=∃ ci,PX w0 wx l n k V g6 cr g ci
theorem PXE.set {w0 wx:World} {l:List Ins} {n k:Nat} {V:Value} {g6:Nat} {cr:Array Value} {g:Nat} (h:PXE w0 wx l n k V g6 cr g) (i:Nat) (u:Value):PXE w0 (wx.setCell ⟨g,i,none⟩ u) l n k V g6 cr g:=h.elim fun _ h=>⟨_,h.set i u⟩
theorem PXE.drew {w0 wx:World} {l:List Ins} {n k:Nat} {V:Value} {g6:Nat} {cr:Array Value} {g:Nat} (h:PXE w0 wx l n k V g6 cr g):PXE w0 wx.drew l n k V g6 cr g:=h.elim fun _ h=>⟨_,h.drew⟩
theorem PXE.alloc {w0 wx:World} {l:List Ins} {n k:Nat} {V:Value} {g6:Nat} {cr:Array Value} {g:Nat} (h:PXE w0 wx l n k V g6 cr g) (o:Obj):PXE w0 (wx.alloc o) l n k V g6 cr g:=h.elim fun _ h=>⟨_,h.alloc o⟩
theorem PXE.own {w0 wx:World} {l:List Ins} {n k:Nat} {V:Value} {g6:Nat} {cr:Array Value} {g:Nat} (h:PXE w0 wx l n k V g6 cr g):wx.ownsRow w0.heap.size 65 4 V k (Az1 (Aze l n k)):=h.elim fun _ h=>h.ps.own
structure PJ2 (w0:World) (l:List Ins) (n k:Nat) (V:Value) (g6 g:Nat) (rk ra rb rc:Int) (pa qn:Nat) (ci:Array Value) (listed:Array Bool) (W:World) (y49 y50 y51 y52 y53 y54 y55 y56 y57 y58 y59 y60:Value):Prop where
 f0:listed.getD 0 true=true→y49=pt g 1
 f1:listed.getD 1 true=true→y50= .int .i64 (pa:Int)
 f2:listed.getD 2 true=true→y51= .int .i64 (k:Int)
 f3:listed.getD 3 true=true→y52=pt g6 3
 f4:listed.getD 4 true=true→y53= .int .i64 rc
 f5:listed.getD 5 true=true→y54= .int .i64 (n:Int)
 f6:listed.getD 6 true=true→y55= .int .i64 ((n:Int)+1)
 f7:listed.getD 7 true=true→y56= .int .i64 (k:Int)
 f8:listed.getD 8 true=true→y57= .int .i64 ((n:Int)+1 - (k:Int))
 f9:listed.getD 9 true=true→y58= .int .i64 (qn:Int)
 f10:listed.getD 10 true=true→y59= .int .i64 ((k:Int)+(qn:Int))
 f11:listed.getD 11 true=true→y60= .agg #[.int .i64 11, .int .i64 (pa:Int), .int .i64 0, .int .i64 ((k:Int)+(qn:Int))]
 px:PX w0 W l n k V g6 #[.int .i64 rk, .int .i64 ra, .int .i64 rb, .int .i64 rc] g (if listed.getD 12 true=true then #[.int .i64 11, .int .i64 (pa:Int), .int .i64 0, .int .i64 ((k:Int)+(qn:Int))] else ci)
theorem PWI.mk {w0 W w':World} {c n k:Nat} {A:Option Addr} {l:List Ins} {a:Act} {V v1:Value} {g6 g:Nat} {cr:Array Value} {x r:Ins} (hX':PXE w0 W l n k V g6 cr g) (hv:w'.ownsRow w0.heap.size 65 4 v1 (k+1) (Az1 (Aze l n k)++Az1 [x])) (hg:W.grownBy w' V.ownBlock)
  (hG:l.getD k default=r) (hx:Dzo n k r=x) (hk:k<n)
  (h0:a.defers=[]) (h1:a.tmps.size=119) (h2:a.tmps[0]? =some (.slice A l.length c)) (h3:a.tmps[3]? =some (.int .i64 (n:Int))) (h4:a.tmps[11]? =some (.int .i64 (n:Int))) (h5:a.tmps[12]? =some (.int .i64 ((k:Int)+1))) (h6:a.tmps[4]? =some v1):
  PWI w0 c n A l a w'∧pmu n a w'<n - k:=by
 obtain⟨_,hX⟩:=hX';refine⟨⟨h0,h1,h2,h3,h4,k+1,v1,h5,h6,hk,?_,hX.ps.below.grown hg hX.ps.below.size (fun q hq=>(hX.ps.own.lt q hq).1)⟩,?_⟩
 ·rw[Izj,hG,hx,Ez6]
  exact hv
 ·unfold pmu
  rw[h5];simp;omega
set_option maxHeartbeats 4000000 in
theorem Szl (w0 wr:World) (c n k:Nat) (A:Option Addr) (l:List Ins) (V:Value) (u:Nat→Value) (Q0:Exit→Act→World→Prop) (hk:k=n) (hB:Below w0.heap.size w0 wr) (hV:wr.ownsRow w0.heap.size 65 4 V k (Az1 (Aze l n k))) (hQ:∀ a w',PWX w0 c n A l a w'→Q0 (.exit 0) a w'):
  Code.wp Tryd.prog Lzj (Exit.then (fun a' w''=>PWI w0 c n A l a' w''∧pmu n a' w''<n - k) Q0) ⟨#[.slice A l.length c,u 1,u 2, .int .i64 (n:Int),V,u 5,u 6,u 7,u 8,u 9,u 10, .int .i64 (n:Int), .int .i64 (k:Int),u 13,u 14,u 15,u 16,u 17,u 18,u 19,u 20,u 21,u 22,u 23,u 24,u 25,u 26,u 27,u 28,u 29,u 30,u 31,u 32,u 33,u 34,u 35,u 36,u 37,u 38,u 39,u 40,u 41,u 42,u 43,u 44,u 45,u 46,u 47,u 48,u 49,u 50,u 51,u 52,u 53,u 54,u 55,u 56,u 57,u 58,u 59,u 60,u 61,u 62,u 63,u 64,u 65,u 66,u 67,u 68,u 69,u 70,u 71,u 72,u 73,u 74,u 75,u 76,u 77,u 78,u 79,u 80,u 81,u 82,u 83,u 84,u 85,u 86,u 87,u 88,u 89,u 90,u 91,u 92,u 93,u 94,u 95,u 96,u 97,u 98,u 99,u 100,u 101,u 102,u 103,u 104,u 105,u 106,u 107,u 108,u 109,u 110,u 111,u 112,u 113,u 114,u 115,u 116,u 117,u 118],[]⟩ wr:=by
 subst hk;have HQ:=Lib.hid hQ;have HB:=Lib.hid hB;have HV:=Lib.hid hV;clear hQ hB hV;conv=>arg 2;whnf
 go_wp2;exact HQ.out _ _ ⟨rfl,rfl,rfl,V,rfl,HV.out,HB.out⟩
end Go.Proofs.YtdjamdbamkhblacDoor
