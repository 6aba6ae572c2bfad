/- The drawn regions of the reference's ModuleCopy and KernelCopy: rows appended to nil. No condition. By an AI agent (xrcopy.py). -/
import Derived.Test.YtdjamdbamkhblacGreatDoorG10
import Derived.Test.YtdjamdbamkhblacGreatDoorG12
set_option maxHeartbeats 8000000
set_option maxRecDepth 1000000
namespace Go.Proofs.YtdjamdbamkhblacGreatDoor
open Go.RowKit
set_option linter.unusedVariables false
set_option linter.unusedSimpArgs false
section
variable {P:Program} (w:World)
theorem Bz0 {ops:Array Oper} {o:Oper} {a:Act} {K:Act→World→Prop} {Q:Exit→Act→World→Prop} {E:Prop} (hgd:o.guard=none) (s x:Operand) (t:TypeId)
  (ho:o.op= .call { callee:= .builtin .append,args:= #[s,x],argTypes:= #[t,t] })
  (base:Nat) (e:TypeId) (i:TypeInfo) (z:Value) (size bytes:Nat) (ht:P.underlying t=some (.slice e)) (hi:P.info? e=some i) (hz:i.zero=some z)
  (hsize:i.size=size) (hby:i.bytes=bytes) (hzs:z.cells.size=size) (hsz:0<size) (hs:a.eval s= .slice none 0 0)
  (B:Nat) (A:Option Addr) (m c:Nat) (news:List Value) (hx:a.eval x= .slice A m c) (hr:Rd w B size A m news) (h1:∀ u∈news,u.oneCell'=true)
  (h63:m≤maxLen) (hbytes:m*bytes≤140737488355328) (hbase:base≤w.heap.size)
  (h:∀ A' c' w',w'.ownsRow base e size (.slice A' m c') m news→Below w.heap.size w w'→K (a.put o.dst (.slice A' m c')) w'):
  if Region.wanted o (yielded ops a.tmps)=true then Oper.wp P o a w K Q else E:=by
 refine Czu w hgd s x t ho base e i z size bytes ht hi hz hsize hby hzs hsz (.slice none 0 0) 0 [] hs (World.ownsRow_nil _ _ _ _) B A m c news hx hr h1 (by omega) (by rw[Nat.zero_add];exact hbytes) hbase ?_;intro A' c' w' h1 h2 _;rw[Nat.zero_add] at h1 ⊢;exact h A' c' w' h1 ((Below.refl _ _).grown h2 (Nat.le_refl _) (fun k hk=>by cases hk))
end
structure MCopyJ (w0:World) (b g:Nat) (nm:ByteArray) (AC AD:Option Addr) (lc cC ld cD:Nat) (xs:List Ins) (ys:List Int) (t0t t1t t2t t3t t4t t5t t6t t7t t8t t9t:Bool) (W:World) (y3 y4 y5 y6 y7 y8 y9 y10 y11:Value):Prop where
 f0:t0t=true→y3= .pointer (some ⟨b,0,none⟩)
 f1:t1t=true→y4= .string nm
 f2:t2t=true→y5= .pointer (some ⟨b,1,none⟩)
 f3:t3t=true→y6= .slice AC lc cC
 f4:t4t=true→∃ s:Value,y7=s∧(t9t=false→W.ownsRow w0.heap.size 104 4 s lc (Azc xs))
 f5:t5t=true→y8= .pointer (some ⟨b,2,none⟩)
 f6:t6t=true→y9= .slice AD ld cD
 f7:t7t=true→∃ s:Value,y10=s∧(t9t=false→W.ownsRow w0.heap.size 3 1 s ld (intCells ys))
 f8:t8t=true→y11= .agg #[y4,y7,y10]
 f9:t9t=true→∃ (v u:Value) (W1:World),Below w0.heap.size w0 W1∧W1.ownsRow w0.heap.size 104 4 v lc (Azc xs)∧W1.ownsRow w0.heap.size 3 1 u ld (intCells ys)∧W=((W1.setCell ⟨g,0,none⟩ (.string nm)).setCell ⟨g,1,none⟩ v).setCell ⟨g,2,none⟩ u
 q9_8:t9t=true→t8t=true
 q9_7:t9t=true→t7t=true
 q9_6:t9t=true→t6t=true
 q9_4:t9t=true→t4t=true
 q9_3:t9t=true→t3t=true
 q9_1:t9t=true→t1t=true
 q8_7:t8t=true→t7t=true
 q8_4:t8t=true→t4t=true
 q8_1:t8t=true→t1t=true
 w:t9t=false→Below w0.heap.size w0 W
noncomputable def Nzg:Code:=((Tryz.f62.body.bind (Czf 1)).getD .skip)
theorem Pzc (w0:World) (b g:Nat) (nm:ByteArray) (AC AD:Option Addr) (lc cC ld cD:Nat) (xs:List Ins) (ys:List Int) {v0 v3 v4 v5 v6 v7 v8 v9 v10 v11:Value} (wr:World) (Q:Exit→Act→World→Prop) (hbs:Below w0.heap.size w0 wr.drew) (hbx:Blk w0 b 47 #[.string nm, .slice AC lc cC, .slice AD ld cD]) (hrs:Blk w0 g 47 #[.string ⟨#[]⟩, .slice none 0 0, .slice none 0 0]) (hACR:Rd w0 w0.heap.size 4 AC lc (Azc xs)) (hADR:Rd w0 w0.heap.size 1 AD ld (intCells ys)) (hl1:lc*32≤140737488351232) (hl2:ld*8≤140737488351232)
  (hQ:∀ (listed:Array Bool) (W:World) (y3 y4 y5 y6 y7 y8 y9 y10 y11:Value),(∀ i,i<10→listed.getD i true=true)→MCopyJ w0 b g nm AC AD lc cC ld cD xs ys (listed.getD 0 true) (listed.getD 1 true) (listed.getD 2 true) (listed.getD 3 true) (listed.getD 4 true) (listed.getD 5 true) (listed.getD 6 true) (listed.getD 7 true) (listed.getD 8 true) (listed.getD 9 true) W y3 y4 y5 y6 y7 y8 y9 y10 y11→Q .normal ⟨#[v0, .pointer (some ⟨b,0,none⟩), .pointer (some ⟨g,0,none⟩),y3,y4,y5,y6,y7,y8,y9,y10,y11],[]⟩ W):
  Code.wp Tryz.prog Nzg Q ⟨#[v0, .pointer (some ⟨b,0,none⟩), .pointer (some ⟨g,0,none⟩),v3,v4,v5,v6,v7,v8,v9,v10,v11],[]⟩ wr:=by
 have HQ:=Lib.hid hQ;clear hQ;conv=>arg 2;whnf
 refine Azj (fun listed a W=>∃ y3 y4 y5 y6 y7 y8 y9 y10 y11,MCopyJ w0 b g nm AC AD lc cC ld cD xs ys (listed.getD 0 true) (listed.getD 1 true) (listed.getD 2 true) (listed.getD 3 true) (listed.getD 4 true) (listed.getD 5 true) (listed.getD 6 true) (listed.getD 7 true) (listed.getD 8 true) (listed.getD 9 true) W y3 y4 y5 y6 y7 y8 y9 y10 y11∧a=⟨#[v0, .pointer (some ⟨b,0,none⟩), .pointer (some ⟨g,0,none⟩),y3,y4,y5,y6,y7,y8,y9,y10,y11],[]⟩) (by kernel_rfl) (Czi (by kernel_rfl)) ?start ?step ?fin
 case start=>
  refine⟨_,_,_,_,_,_,_,_,_,?_,rfl⟩;constructor
  all_goals first|exact fun _=>hbs|exact fun _=>rfl|exact fun h=>absurd h (by decide)
 case step=>
  intro i o ho listed a W hl haf hI K hK;obtain⟨y3,y4,y5,y6,y7,y8,y9,y10,y11,hJ,rfl⟩:=hI;have hK:=fun (W':World) z3 z4 z5 z6 z7 z8 z9 z10 z11 h=>hK _ W' ⟨z3,z4,z5,z6,z7,z8,z9,z10,z11,h,rfl⟩
  simp only[Az2] at hK;have hi:i<10:=(Array.getElem?_eq_some_iff.1 ho).1;have h16:i=0∨i=1∨i=2∨i=3∨i=4∨i=5∨i=6∨i=7∨i=8∨i=9:=by omega
  rcases h16 with rfl|rfl|rfl|rfl|rfl|rfl|rfl|rfl|rfl|rfl
  all_goals
   have ho:=Option.some.inj ho;subst ho
   try simp[Region.binds] at haf
  ·
    go_simp;apply hK;exact { hJ with f0:=fun _=>rfl }
  ·
    obtain rfl:=hJ.f0 (Az0 (by simp[haf]));have h9:=nlR hJ.q9_1 hl;have hkk:=hbx.below (hJ.w h9) hbx.lt;obtain⟨e1, -, -, -,el⟩:=hkk.a2;simp at e1;go_simp;apply hK;exact { hJ with f1:=fun _=>rfl,f8:=fun x=>by have e:=hJ.q8_1 x;rw[hl] at e;exact absurd e (by decide),q9_1:=fun _=>rfl,q8_1:=fun _=>rfl }
  ·
    go_simp;apply hK;exact { hJ with f2:=fun _=>rfl }
  ·
    obtain rfl:=hJ.f2 (Az0 (by simp[haf]));have h9:=nlR hJ.q9_3 hl;have hkk:=hbx.below (hJ.w h9) hbx.lt;obtain⟨-,e1, -, -,el⟩:=hkk.a2;simp at e1;go_simp;apply hK;exact { hJ with f3:=fun _=>rfl,q9_3:=fun _=>rfl }
  ·
    obtain rfl:=hJ.f3 (Az0 (by simp[haf]));have h9:=nlR hJ.q9_4 hl;have hbw:=hJ.w h9;obtain⟨im,him,hz0,hz1,hz2⟩:=info_parts Kzz;have hU:=Tryz.underlying45;refine Bz0 _ rfl _ _ _ rfl w0.heap.size 104 im _ 4 32 hU him hz0 hz1 hz2 rfl (by omega) rfl w0.heap.size AC lc cC (Azc xs) rfl (hACR.below hbw) (Hzs _) (by unfold maxLen;omega) (by omega) hbw.size ?_;intro A5 c5 w5 hown5 hbw5;apply hK;exact { hJ with f4:=fun _=>⟨_,rfl,fun h=>hown5⟩,f7:=fun x=>by obtain⟨s,e1,e2⟩:=hJ.f7 x;exact⟨s,e1,fun h=>own_below (e2 h) hbw5⟩,f8:=fun x=>by have e:=hJ.q8_4 x;rw[hl] at e;exact absurd e (by decide),f9:=fun x=>by have e:=hJ.q9_4 x;rw[hl] at e;exact absurd e (by decide),q9_4:=fun _=>rfl,q8_4:=fun _=>rfl,w:=fun h=>(hJ.w h).trans (hbw5.mono (hJ.w h).size) }
  ·
    go_simp;apply hK;exact { hJ with f5:=fun _=>rfl }
  ·
    obtain rfl:=hJ.f5 (Az0 (by simp[haf]));have h9:=nlR hJ.q9_6 hl;have hkk:=hbx.below (hJ.w h9) hbx.lt;have e1:=hkk.cell 2;have el:=hkk.lt;simp at e1;go_simp;apply hK;exact { hJ with f6:=fun _=>rfl,q9_6:=fun _=>rfl }
  ·
    obtain rfl:=hJ.f6 (Az0 (by simp[haf]));obtain⟨s4,rfl,hE4⟩:=hJ.f4 (Az0 (by simp[haf]));have h9:=nlR hJ.q9_7 hl;have hbw:=hJ.w h9;obtain⟨im,him,hz0,hz1,hz2⟩:=info_parts Dz1;have hU:=Tryz.underlying25;refine Bz0 _ rfl _ _ _ rfl w0.heap.size 3 im _ 1 8 hU him hz0 hz1 hz2 rfl (by omega) rfl w0.heap.size AD ld cD (intCells ys) rfl (hADR.below hbw) (Dz3 _) (by unfold maxLen;omega) (by omega) hbw.size ?_;intro A5 c5 w5 hown5 hbw5;apply hK;exact { hJ with f4:=fun x=>by obtain⟨s,e1,e2⟩:=hJ.f4 x;exact⟨s,e1,fun h=>own_below (e2 h) hbw5⟩,f7:=fun _=>⟨_,rfl,fun h=>hown5⟩,f8:=fun x=>by have e:=hJ.q8_7 x;rw[hl] at e;exact absurd e (by decide),f9:=fun x=>by have e:=hJ.q9_7 x;rw[hl] at e;exact absurd e (by decide),q9_7:=fun _=>rfl,q8_7:=fun _=>rfl,w:=fun h=>(hJ.w h).trans (hbw5.mono (hJ.w h).size) }
  ·
    have p1:listed.getD 1 true=true:=Az0 (by simp[haf]);have p4:listed.getD 4 true=true:=Az0 (by simp[haf]);have p7:listed.getD 7 true=true:=Az0 (by simp[haf]);obtain rfl:=hJ.f1 p1;obtain⟨s4,rfl,hE4⟩:=hJ.f4 p4;obtain⟨s7,rfl,hE7⟩:=hJ.f7 p7;have h9:=nlR hJ.q9_8 hl;obtain⟨Z4,z4,rfl⟩:=Az1 (hE4 h9);obtain⟨Z7,z7,rfl⟩:=Az1 (hE7 h9);go_simp;apply hK;exact { hJ with f8:=fun _=>rfl,q9_8:=fun _=>rfl,q8_7:=fun _=>p7,q8_4:=fun _=>p4,q8_1:=fun _=>p1 }
  ·
    have p1:listed.getD 1 true=true:=Az0 (by simp[haf]);have p4:listed.getD 4 true=true:=Az0 (by simp[haf]);have p7:listed.getD 7 true=true:=Az0 (by simp[haf]);have p8:listed.getD 8 true=true:=Az0 (by simp[haf]);have p3:listed.getD 3 true=true:=Az0 (by simp[haf]);have p6:listed.getD 6 true=true:=Az0 (by simp[haf]);obtain rfl:=hJ.f1 p1;obtain⟨s4,rfl,hE4⟩:=hJ.f4 p4;obtain⟨s7,rfl,hE7⟩:=hJ.f7 p7;obtain rfl:=hJ.f8 p8;have hO1:=hE4 hl;have hO2:=hE7 hl;obtain⟨A1,k1,rfl⟩:=Az1 hO1;obtain⟨A2,k2,rfl⟩:=Az1 hO2;have hbw:=hJ.w hl;have hkk:=hrs.below hbw hrs.lt;obtain⟨e0,e1,e2,f0,f1,f2,el⟩:=hkk.a3;simp at e0 e1 e2;go_simp;apply hK;exact { hJ with f4:=fun x=>by obtain⟨s,e1,e2⟩:=hJ.f4 x;exact⟨s,e1,tfR⟩,f7:=fun x=>by obtain⟨s,e1,e2⟩:=hJ.f7 x;exact⟨s,e1,tfR⟩,f9:=fun _=>⟨_,_,W,hbw,hO1,hO2,rfl⟩,q9_8:=fun _=>p8,q9_7:=fun _=>p7,q9_6:=fun _=>p6,q9_4:=fun _=>p4,q9_3:=fun _=>p3,q9_1:=fun _=>p1,w:=tfR }
 case fin=>
  intro listed a W hall hI;obtain⟨y3,y4,y5,y6,y7,y8,y9,y10,y11,hJ,rfl⟩:=hI;exact HQ.out listed W _ _ _ _ _ _ _ _ _ hall hJ
structure KCopyJ (w0:World) (b:Nat) (u0 u4:Value) (A1 A2 A3:Option Addr) (n1 c1 n2 c2 n3 c3:Nat) (xs:List Int) (ns:List Nod) (ss:List ByteArray) (t0t t1t t2t t3t t4t t5t t6t t7t t8t t9t t10t t11t:Bool) (W:World) (y3 y6 y7 y8 y9 y10 y11 y12 y13 y14 y15:Value):Prop where
 f0:t0t=true→y6= .pointer (some ⟨b,1,none⟩)
 f1:t1t=true→y7= .slice A1 n1 c1
 f2:t2t=true→∃ s:Value,y8=s∧(t11t=false→W.ownsRow w0.heap.size 3 1 s n1 (intCells xs))
 f3:t3t=true→y9= .pointer (some ⟨b,2,none⟩)
 f4:t4t=true→y10= .slice A2 n2 c2
 f5:t5t=true→∃ s:Value,y11=s∧(t11t=false→W.ownsRow w0.heap.size 49 4 s n2 (Azk ns))
 f6:t6t=true→y12= .pointer (some ⟨b,3,none⟩)
 f7:t7t=true→y13= .slice A3 n3 c3
 f8:t8t=true→∃ s:Value,y14=s∧(t11t=false→W.ownsRow w0.heap.size 9 1 s n3 (strCells ss))
 f9:t9t=true→y15= .agg #[.slice none 0 0,y8,y11,y14, .slice none 0 0]
 f10:t10t=true→∃ s:Nat,y3= .pointer (some ⟨s,0,none⟩)∧w0.heap.size≤s∧(t11t=false→Blk W s 30 #[.slice none 0 0, .slice none 0 0, .slice none 0 0, .slice none 0 0, .slice none 0 0])
 f11:t11t=true→∃ (s:Nat) (v1 v2 v3:Value) (W1:World),y3= .pointer (some ⟨s,0,none⟩)∧w0.heap.size≤s∧Blk W1 s 30 #[.slice none 0 0, .slice none 0 0, .slice none 0 0, .slice none 0 0, .slice none 0 0]∧Below w0.heap.size w0 W1∧W1.ownsRow w0.heap.size 3 1 v1 n1 (intCells xs)∧W1.ownsRow w0.heap.size 49 4 v2 n2 (Azk ns)∧W1.ownsRow w0.heap.size 9 1 v3 n3 (strCells ss)∧W=lay5 W1 s (.slice none 0 0) v1 v2 v3 (.slice none 0 0)
 q11_10:t11t=true→t10t=true
 q11_9:t11t=true→t9t=true
 q11_8:t11t=true→t8t=true
 q11_7:t11t=true→t7t=true
 q11_5:t11t=true→t5t=true
 q11_4:t11t=true→t4t=true
 q11_2:t11t=true→t2t=true
 q11_1:t11t=true→t1t=true
 q9_8:t9t=true→t8t=true
 q9_5:t9t=true→t5t=true
 q9_2:t9t=true→t2t=true
 w:t11t=false→Below w0.heap.size w0 W
noncomputable def Nza:Code:=((Tryz.f22.body.bind (Czf 1)).getD .skip)
theorem Pz8 (w0:World) (b:Nat) (u0 u4:Value) (A1 A2 A3:Option Addr) (n1 c1 n2 c2 n3 c3:Nat) (xs:List Int) (ns:List Nod) (ss:List ByteArray) {v0 v2 v3 v4 v5 v6 v7 v8 v9 v10 v11 v12 v13 v14 v15 v16 v17 v18 v19 v20 v21 v22 v23 v24 v25 v26 v27 v28 v29 v30 v31 v32 v33 v34 v35 v36 v37 v38 v39 v40 v41 v42 v43 v44 v45 v46 v47 v48 v49 v50 v51 v52 v53 v54 v55 v56 v57 v58 v59 v60:Value} (wr:World) (Q:Exit→Act→World→Prop) (hbs:Below w0.heap.size w0 wr.drew) (hbx:Blk w0 b 30 #[u0, .slice A1 n1 c1, .slice A2 n2 c2, .slice A3 n3 c3,u4]) (hA1R:Rd w0 w0.heap.size 1 A1 n1 (intCells xs)) (hA2R:Rd w0 w0.heap.size 4 A2 n2 (Azk ns)) (hA3R:Rd w0 w0.heap.size 1 A3 n3 (strCells ss)) (hl1:n1*8≤140737488351232) (hl2:n2*48≤140737488351232) (hl3:n3*16≤140737488351232)
  (hQ:∀ (listed:Array Bool) (W:World) (y3 y6 y7 y8 y9 y10 y11 y12 y13 y14 y15:Value),(∀ i,i<12→listed.getD i true=true)→KCopyJ w0 b u0 u4 A1 A2 A3 n1 c1 n2 c2 n3 c3 xs ns ss (listed.getD 0 true) (listed.getD 1 true) (listed.getD 2 true) (listed.getD 3 true) (listed.getD 4 true) (listed.getD 5 true) (listed.getD 6 true) (listed.getD 7 true) (listed.getD 8 true) (listed.getD 9 true) (listed.getD 10 true) (listed.getD 11 true) W y3 y6 y7 y8 y9 y10 y11 y12 y13 y14 y15→Q .normal ⟨#[v0, .pointer (some ⟨b,0,none⟩),v2,y3,v4,v5,y6,y7,y8,y9,y10,y11,y12,y13,y14,y15,v16,v17,v18,v19,v20,v21,v22,v23,v24,v25,v26,v27,v28,v29,v30,v31,v32,v33,v34,v35,v36,v37,v38,v39,v40,v41,v42,v43,v44,v45,v46,v47,v48,v49,v50,v51,v52,v53,v54,v55,v56,v57,v58,v59,v60],[]⟩ W):
  Code.wp Tryz.prog Nza Q ⟨#[v0, .pointer (some ⟨b,0,none⟩),v2,v3,v4,v5,v6,v7,v8,v9,v10,v11,v12,v13,v14,v15,v16,v17,v18,v19,v20,v21,v22,v23,v24,v25,v26,v27,v28,v29,v30,v31,v32,v33,v34,v35,v36,v37,v38,v39,v40,v41,v42,v43,v44,v45,v46,v47,v48,v49,v50,v51,v52,v53,v54,v55,v56,v57,v58,v59,v60],[]⟩ wr:=by
 have HQ:=Lib.hid hQ;clear hQ;conv=>arg 2;whnf
 refine Azj (fun listed a W=>∃ y3 y6 y7 y8 y9 y10 y11 y12 y13 y14 y15,KCopyJ w0 b u0 u4 A1 A2 A3 n1 c1 n2 c2 n3 c3 xs ns ss (listed.getD 0 true) (listed.getD 1 true) (listed.getD 2 true) (listed.getD 3 true) (listed.getD 4 true) (listed.getD 5 true) (listed.getD 6 true) (listed.getD 7 true) (listed.getD 8 true) (listed.getD 9 true) (listed.getD 10 true) (listed.getD 11 true) W y3 y6 y7 y8 y9 y10 y11 y12 y13 y14 y15∧a=⟨#[v0, .pointer (some ⟨b,0,none⟩),v2,y3,v4,v5,y6,y7,y8,y9,y10,y11,y12,y13,y14,y15,v16,v17,v18,v19,v20,v21,v22,v23,v24,v25,v26,v27,v28,v29,v30,v31,v32,v33,v34,v35,v36,v37,v38,v39,v40,v41,v42,v43,v44,v45,v46,v47,v48,v49,v50,v51,v52,v53,v54,v55,v56,v57,v58,v59,v60],[]⟩) (by kernel_rfl) (Czi (by kernel_rfl)) ?start ?step ?fin
 case start=>
  refine⟨_,_,_,_,_,_,_,_,_,_,_,?_,rfl⟩;constructor
  all_goals first|exact fun _=>hbs|exact fun _=>rfl|exact fun h=>absurd h (by decide)
 case step=>
  intro i o ho listed a W hl haf hI K hK;obtain⟨y3,y6,y7,y8,y9,y10,y11,y12,y13,y14,y15,hJ,rfl⟩:=hI;have hK:=fun (W':World) z3 z6 z7 z8 z9 z10 z11 z12 z13 z14 z15 h=>hK _ W' ⟨z3,z6,z7,z8,z9,z10,z11,z12,z13,z14,z15,h,rfl⟩
  simp only[Az2] at hK;have hi:i<12:=(Array.getElem?_eq_some_iff.1 ho).1;have h16:i=0∨i=1∨i=2∨i=3∨i=4∨i=5∨i=6∨i=7∨i=8∨i=9∨i=10∨i=11:=by omega
  rcases h16 with rfl|rfl|rfl|rfl|rfl|rfl|rfl|rfl|rfl|rfl|rfl|rfl
  all_goals
   have ho:=Option.some.inj ho;subst ho
   try simp[Region.binds] at haf
  ·
    go_simp;apply hK;exact { hJ with f0:=fun _=>rfl }
  ·
    obtain rfl:=hJ.f0 (Az0 (by simp[haf]));have h11:=nlR hJ.q11_1 hl;have hkk:=hbx.below (hJ.w h11) hbx.lt;obtain⟨-,e1, -, -,el⟩:=hkk.a2;simp at e1;go_simp;apply hK;exact { hJ with f1:=fun _=>rfl,q11_1:=fun _=>rfl }
  ·
    obtain rfl:=hJ.f1 (Az0 (by simp[haf]));have h11:=nlR hJ.q11_2 hl;have hbw:=hJ.w h11;obtain⟨im,him,hz0,hz1,hz2⟩:=info_parts Dz1;have hU:=Tryz.underlying25;refine Bz0 _ rfl _ _ _ rfl w0.heap.size 3 im _ 1 8 hU him hz0 hz1 hz2 rfl (by omega) rfl w0.heap.size A1 n1 c1 (intCells xs) rfl (hA1R.below hbw) (Dz3 _) (by unfold maxLen;omega) (by omega) hbw.size ?_;intro A5 c5 w5 hown5 hbw5;apply hK;exact { hJ with f2:=fun _=>⟨_,rfl,fun h=>hown5⟩,f5:=fun x=>by obtain⟨s,e1,e2⟩:=hJ.f5 x;exact⟨s,e1,fun h=>own_below (e2 h) hbw5⟩,f8:=fun x=>by obtain⟨s,e1,e2⟩:=hJ.f8 x;exact⟨s,e1,fun h=>own_below (e2 h) hbw5⟩,f9:=fun x=>by have e:=hJ.q9_2 x;rw[hl] at e;exact absurd e (by decide),f10:=fun x=>by obtain⟨s,e1,e2⟩:=hJ.f10 x;exact⟨s,e1,⟨e2.1,fun h=>(e2.2 h).below hbw5 (e2.2 h).lt⟩⟩,f11:=fun x=>by have e:=hJ.q11_2 x;rw[hl] at e;exact absurd e (by decide),q11_2:=fun _=>rfl,q9_2:=fun _=>rfl,w:=fun h=>(hJ.w h).trans (hbw5.mono (hJ.w h).size) }
  ·
    go_simp;apply hK;exact { hJ with f3:=fun _=>rfl }
  ·
    obtain rfl:=hJ.f3 (Az0 (by simp[haf]));have h11:=nlR hJ.q11_4 hl;have hkk:=hbx.below (hJ.w h11) hbx.lt;have e1:=hkk.cell 2;have el:=hkk.lt;simp at e1;go_simp;apply hK;exact { hJ with f4:=fun _=>rfl,q11_4:=fun _=>rfl }
  ·
    obtain rfl:=hJ.f4 (Az0 (by simp[haf]));obtain⟨s2,rfl,hE2⟩:=hJ.f2 (Az0 (by simp[haf]));have h11:=nlR hJ.q11_5 hl;have hbw:=hJ.w h11;obtain⟨im,him,hz0,hz1,hz2⟩:=info_parts Izs;have hU:=Tryz.underlying26;refine Bz0 _ rfl _ _ _ rfl w0.heap.size 49 im _ 4 48 hU him hz0 hz1 hz2 rfl (by omega) rfl w0.heap.size A2 n2 c2 (Azk ns) rfl (hA2R.below hbw) (Nzn _) (by unfold maxLen;omega) (by omega) hbw.size ?_;intro A5 c5 w5 hown5 hbw5;apply hK;exact { hJ with f2:=fun x=>by obtain⟨s,e1,e2⟩:=hJ.f2 x;exact⟨s,e1,fun h=>own_below (e2 h) hbw5⟩,f5:=fun _=>⟨_,rfl,fun h=>hown5⟩,f8:=fun x=>by obtain⟨s,e1,e2⟩:=hJ.f8 x;exact⟨s,e1,fun h=>own_below (e2 h) hbw5⟩,f9:=fun x=>by have e:=hJ.q9_5 x;rw[hl] at e;exact absurd e (by decide),f10:=fun x=>by obtain⟨s,e1,e2⟩:=hJ.f10 x;exact⟨s,e1,⟨e2.1,fun h=>(e2.2 h).below hbw5 (e2.2 h).lt⟩⟩,f11:=fun x=>by have e:=hJ.q11_5 x;rw[hl] at e;exact absurd e (by decide),q11_5:=fun _=>rfl,q9_5:=fun _=>rfl,w:=fun h=>(hJ.w h).trans (hbw5.mono (hJ.w h).size) }
  ·
    go_simp;apply hK;exact { hJ with f6:=fun _=>rfl }
  ·
    obtain rfl:=hJ.f6 (Az0 (by simp[haf]));have h11:=nlR hJ.q11_7 hl;have hkk:=hbx.below (hJ.w h11) hbx.lt;have e1:=hkk.cell 3;have el:=hkk.lt;simp at e1;go_simp;apply hK;exact { hJ with f7:=fun _=>rfl,q11_7:=fun _=>rfl }
  ·
    obtain rfl:=hJ.f7 (Az0 (by simp[haf]));obtain⟨s5,rfl,hE5⟩:=hJ.f5 (Az0 (by simp[haf]));have h11:=nlR hJ.q11_8 hl;have hbw:=hJ.w h11;obtain⟨im,him,hz0,hz1,hz2⟩:=info_parts Lz0;have hU:=Tryz.underlying27;refine Bz0 _ rfl _ _ _ rfl w0.heap.size 9 im _ 1 16 hU him hz0 hz1 hz2 rfl (by omega) rfl w0.heap.size A3 n3 c3 (strCells ss) rfl (hA3R.below hbw) (Oza _) (by unfold maxLen;omega) (by omega) hbw.size ?_;intro A5 c5 w5 hown5 hbw5;apply hK;exact { hJ with f2:=fun x=>by obtain⟨s,e1,e2⟩:=hJ.f2 x;exact⟨s,e1,fun h=>own_below (e2 h) hbw5⟩,f5:=fun x=>by obtain⟨s,e1,e2⟩:=hJ.f5 x;exact⟨s,e1,fun h=>own_below (e2 h) hbw5⟩,f8:=fun _=>⟨_,rfl,fun h=>hown5⟩,f9:=fun x=>by have e:=hJ.q9_8 x;rw[hl] at e;exact absurd e (by decide),f10:=fun x=>by obtain⟨s,e1,e2⟩:=hJ.f10 x;exact⟨s,e1,⟨e2.1,fun h=>(e2.2 h).below hbw5 (e2.2 h).lt⟩⟩,f11:=fun x=>by have e:=hJ.q11_8 x;rw[hl] at e;exact absurd e (by decide),q11_8:=fun _=>rfl,q9_8:=fun _=>rfl,w:=fun h=>(hJ.w h).trans (hbw5.mono (hJ.w h).size) }
  ·
    have p2:listed.getD 2 true=true:=Az0 (by simp[haf]);have p5:listed.getD 5 true=true:=Az0 (by simp[haf]);have p8:listed.getD 8 true=true:=Az0 (by simp[haf]);obtain⟨s2,rfl,hE2⟩:=hJ.f2 p2;obtain⟨s5,rfl,hE5⟩:=hJ.f5 p5;obtain⟨s8,rfl,hE8⟩:=hJ.f8 p8;have h11:=nlR hJ.q11_9 hl;obtain⟨Z2,z2,rfl⟩:=Az1 (hE2 h11);obtain⟨Z5,z5,rfl⟩:=Az1 (hE5 h11);obtain⟨Z8,z8,rfl⟩:=Az1 (hE8 h11);go_simp;apply hK;exact { hJ with f9:=fun _=>rfl,q11_9:=fun _=>rfl,q9_8:=fun _=>p8,q9_5:=fun _=>p5,q9_2:=fun _=>p2 }
  ·
    have h11:=nlR hJ.q11_10 hl;go_simp;apply hK;exact { hJ with f2:=fun x=>by obtain⟨s,e1,e2⟩:=hJ.f2 x;exact⟨s,e1,fun h=>(e2 h).alloc _⟩,f5:=fun x=>by obtain⟨s,e1,e2⟩:=hJ.f5 x;exact⟨s,e1,fun h=>(e2 h).alloc _⟩,f8:=fun x=>by obtain⟨s,e1,e2⟩:=hJ.f8 x;exact⟨s,e1,fun h=>(e2 h).alloc _⟩,f10:=fun _=>⟨W.heap.size,rfl,(hJ.w h11).size,fun _=>Blk.new _ _ _⟩,f11:=fun x=>by have e:=hJ.q11_10 x;rw[hl] at e;exact absurd e (by decide),q11_10:=fun _=>rfl,w:=fun h=>(hJ.w h).alloc (hJ.w h).size _ }
  ·
    have p2:listed.getD 2 true=true:=Az0 (by simp[haf]);have p5:listed.getD 5 true=true:=Az0 (by simp[haf]);have p8:listed.getD 8 true=true:=Az0 (by simp[haf]);have p9:listed.getD 9 true=true:=Az0 (by simp[haf]);have p10:listed.getD 10 true=true:=Az0 (by simp[haf]);have p1:listed.getD 1 true=true:=Az0 (by simp[haf]);have p4:listed.getD 4 true=true:=Az0 (by simp[haf]);have p7:listed.getD 7 true=true:=Az0 (by simp[haf]);obtain⟨s2,rfl,hE2⟩:=hJ.f2 p2;obtain⟨s5,rfl,hE5⟩:=hJ.f5 p5;obtain⟨s8,rfl,hE8⟩:=hJ.f8 p8;obtain rfl:=hJ.f9 p9;obtain⟨s10,rfl,hE10⟩:=hJ.f10 p10;have hO1:=hE2 hl;have hO2:=hE5 hl;have hO3:=hE8 hl;obtain⟨B1,k1,rfl⟩:=Az1 hO1;obtain⟨B2,k2,rfl⟩:=Az1 hO2;obtain⟨B3,k3,rfl⟩:=Az1 hO3;have hbw:=hJ.w hl;obtain⟨hge,hbl⟩:=hE10;have hbl:=hbl hl;obtain⟨m0,m1,m2,m3,m4,f0,f1,f2,f3,f4,el⟩:=hbl.a5;simp at m0 m1 m2 m3 m4;go_simp;apply hK;exact { hJ with f2:=fun x=>by obtain⟨s,e1,e2⟩:=hJ.f2 x;exact⟨s,e1,tfR⟩,f5:=fun x=>by obtain⟨s,e1,e2⟩:=hJ.f5 x;exact⟨s,e1,tfR⟩,f8:=fun x=>by obtain⟨s,e1,e2⟩:=hJ.f8 x;exact⟨s,e1,tfR⟩,f10:=fun x=>by obtain⟨s,e1,e2⟩:=hJ.f10 x;exact⟨s,e1,⟨e2.1,tfR⟩⟩,f11:=fun _=>⟨s10,_,_,_,W,rfl,hge,hbl,hbw,hO1,hO2,hO3,rfl⟩,q11_10:=fun _=>p10,q11_9:=fun _=>p9,q11_8:=fun _=>p8,q11_7:=fun _=>p7,q11_5:=fun _=>p5,q11_4:=fun _=>p4,q11_2:=fun _=>p2,q11_1:=fun _=>p1,w:=tfR }
 case fin=>
  intro listed a W hall hI;obtain⟨y3,y6,y7,y8,y9,y10,y11,y12,y13,y14,y15,hJ,rfl⟩:=hI;exact HQ.out listed W _ _ _ _ _ _ _ _ _ _ _ hall hJ
structure PCopyJ (w0:World) (B b g bb o np cp nn cV j el c1:Nat) (AV A1:Option Addr) (lv:Bool) (ps:List Value) (xs:List Opn) (u0 u1 u2 u3 t0 t1 t2 t3:Value) (t0t t1t t2t t3t t4t t5t t6t t7t t8t t9t t10t t11t t12t t13t t14t t15t t16t t17t t18t t19t:Bool) (W:World) (y41 y42 y43 y44 y45 y46 y47 y48 y49 y50 y51 y52 y53 y54 y55 y56 y57 y58 y59:Value):Prop where
 f0:t0t=true→y41= .pointer (some ⟨g,4,none⟩)
 f1:t1t=true→y42= .slice AV nn cV
 f2:t2t=true→y43= .pointer (some ⟨b,4,none⟩)
 f3:t3t=true→y44= .slice (some ⟨bb,o,none⟩) np cp
 f4:t4t=true→y45= .int .i64 (j:Int)
 f5:t5t=true→y46= .pointer (some ⟨bb,o+j*2,none⟩)
 f6:t6t=true→y47= .pointer (some ⟨bb,o+j*2,none⟩)
 f7:t7t=true→y48= .bool lv
 f8:t8t=true→y49= .pointer (some ⟨b,4,none⟩)
 f9:t9t=true→y50= .slice (some ⟨bb,o,none⟩) np cp
 f10:t10t=true→y51= .int .i64 (j:Int)
 f11:t11t=true→y52= .pointer (some ⟨bb,o+j*2,none⟩)
 f12:t12t=true→y53= .pointer (some ⟨bb,o+j*2+1,none⟩)
 f13:t13t=true→y54= .slice A1 el c1
 f14:t14t=true→∃ s:Value,y55=s∧(t17t=false→W.ownsRow w0.heap.size 54 3 s el (Azg xs))
 f15:t15t=true→y56= .agg #[y48,y55]
 f16:t16t=true→∃ s:Nat,y57= .slice (some ⟨s,0,none⟩) 1 1∧w0.heap.size≤s∧s<W.heap.size∧(t17t=false→Blk W s 52 #[.bool lv,y55])
 f17:t17t=true→∃ s:Value,y58=s∧(t19t=false→∃ W1,Below w0.heap.size w0 W1∧W1.ownsRow w0.heap.size 54 3 y55 el (Azg xs)∧W.ownsRow B 52 2 s (nn+1) (ps++ [.bool lv,y55])∧W1.grownBy W (Value.slice AV nn cV).ownBlock)
 f18:t18t=true→y59= .pointer (some ⟨g,4,none⟩)
 f19:t19t=true→∃ (V x:Value) (W1 W2:World),Below w0.heap.size w0 W1∧W1.ownsRow w0.heap.size 54 3 x el (Azg xs)∧W2.ownsRow B 52 2 V (nn+1) (ps++ [.bool lv,x])∧W1.grownBy W2 (Value.slice AV nn cV).ownBlock∧W=W2.setCell ⟨g,4,none⟩ V
 q19_17:t19t=true→t17t=true
 q19_16:t19t=true→t16t=true
 q19_14:t19t=true→t14t=true
 q17_1:t17t=true→t1t=true
 q17_16:t17t=true→t16t=true
 q17_14:t17t=true→t14t=true
 q17_15:t17t=true→t15t=true
 q17_7:t17t=true→t7t=true
 q17_3:t17t=true→t3t=true
 q17_13:t17t=true→t13t=true
 q17_9:t17t=true→t9t=true
 q16_15:t16t=true→t15t=true
 q15_7:t15t=true→t7t=true
 q15_14:t15t=true→t14t=true
 q7_6:t7t=true→t6t=true
 q6_5:t6t=true→t5t=true
 q5_3:t5t=true→t3t=true
 q14_13:t14t=true→t13t=true
 q13_12:t13t=true→t12t=true
 q12_11:t12t=true→t11t=true
 q11_9:t11t=true→t9t=true
 q16_14:t16t=true→t14t=true
 w:(t17t=false→Below w0.heap.size w0 W)∧(t19t=false→Tch 52 w0 W)
noncomputable def Nzt:Code:=((Tryz.f22.body.bind (Czf 9)).getD .skip)
theorem Pzh (w0:World) (B b g bb o np cp nn cV j el c1:Nat) (AV A1:Option Addr) (lv:Bool) (ps:List Value) (xs:List Opn) (u0 u1 u2 u3 t0 t1 t2 t3:Value) {v0 v2 v4 v6 v7 v8 v9 v10 v11 v12 v13 v14 v15 v16 v17 v18 v19 v20 v21 v22 v23 v24 v25 v26 v27 v28 v29 v30 v31 v32 v33 v34 v35 v36 v37 v38 v39 v40 v41 v42 v43 v44 v45 v46 v47 v48 v49 v50 v51 v52 v53 v54 v55 v56 v57 v58 v59 v60:Value} (wr:World) (Q:Exit→Act→World→Prop) (hbs:Below w0.heap.size w0 wr.drew) (hBw:B≤w0.heap.size) (hbx:Blk w0 b 30 #[u0,u1,u2,u3, .slice (some ⟨bb,o,none⟩) np cp]) (hbg:Blk w0 g 30 #[t0,t1,t2,t3, .slice AV nn cV]) (hlb:bb<w0.heap.size) (hz0:w0.cell? ⟨bb,o+j*2,none⟩=some (.bool lv)) (hz1:w0.cell? ⟨bb,o+j*2+1,none⟩=some (.slice A1 el c1)) (hj:j<np) (hA1R:Rd w0 w0.heap.size 3 A1 el (Azg xs)) (hel:el*24≤140737488351232) (hown:w0.ownsRow B 52 2 (.slice AV nn cV) nn ps) (hnn:(nn+1)*32≤140737488351232)
  (hQ:∀ (listed:Array Bool) (W:World) (y41 y42 y43 y44 y45 y46 y47 y48 y49 y50 y51 y52 y53 y54 y55 y56 y57 y58 y59:Value),(∀ i,i<20→listed.getD i true=true)→PCopyJ w0 B b g bb o np cp nn cV j el c1 AV A1 lv ps xs u0 u1 u2 u3 t0 t1 t2 t3 (listed.getD 0 true) (listed.getD 1 true) (listed.getD 2 true) (listed.getD 3 true) (listed.getD 4 true) (listed.getD 5 true) (listed.getD 6 true) (listed.getD 7 true) (listed.getD 8 true) (listed.getD 9 true) (listed.getD 10 true) (listed.getD 11 true) (listed.getD 12 true) (listed.getD 13 true) (listed.getD 14 true) (listed.getD 15 true) (listed.getD 16 true) (listed.getD 17 true) (listed.getD 18 true) (listed.getD 19 true) W y41 y42 y43 y44 y45 y46 y47 y48 y49 y50 y51 y52 y53 y54 y55 y56 y57 y58 y59→Q .normal ⟨#[v0, .pointer (some ⟨b,0,none⟩),v2, .pointer (some ⟨g,0,none⟩),v4, .int .i64 (j:Int),v6,v7,v8,v9,v10,v11,v12,v13,v14,v15,v16,v17,v18,v19,v20,v21,v22,v23,v24,v25,v26,v27,v28,v29,v30,v31,v32,v33,v34,v35,v36,v37,v38,v39,v40,y41,y42,y43,y44,y45,y46,y47,y48,y49,y50,y51,y52,y53,y54,y55,y56,y57,y58,y59,v60],[]⟩ W):
  Code.wp Tryz.prog Nzt Q ⟨#[v0, .pointer (some ⟨b,0,none⟩),v2, .pointer (some ⟨g,0,none⟩),v4, .int .i64 (j:Int),v6,v7,v8,v9,v10,v11,v12,v13,v14,v15,v16,v17,v18,v19,v20,v21,v22,v23,v24,v25,v26,v27,v28,v29,v30,v31,v32,v33,v34,v35,v36,v37,v38,v39,v40,v41,v42,v43,v44,v45,v46,v47,v48,v49,v50,v51,v52,v53,v54,v55,v56,v57,v58,v59,v60],[]⟩ wr:=by
 have HQ:=Lib.hid hQ;clear hQ;conv=>arg 2;whnf
 refine Azj (fun listed a W=>∃ y41 y42 y43 y44 y45 y46 y47 y48 y49 y50 y51 y52 y53 y54 y55 y56 y57 y58 y59,PCopyJ w0 B b g bb o np cp nn cV j el c1 AV A1 lv ps xs u0 u1 u2 u3 t0 t1 t2 t3 (listed.getD 0 true) (listed.getD 1 true) (listed.getD 2 true) (listed.getD 3 true) (listed.getD 4 true) (listed.getD 5 true) (listed.getD 6 true) (listed.getD 7 true) (listed.getD 8 true) (listed.getD 9 true) (listed.getD 10 true) (listed.getD 11 true) (listed.getD 12 true) (listed.getD 13 true) (listed.getD 14 true) (listed.getD 15 true) (listed.getD 16 true) (listed.getD 17 true) (listed.getD 18 true) (listed.getD 19 true) W y41 y42 y43 y44 y45 y46 y47 y48 y49 y50 y51 y52 y53 y54 y55 y56 y57 y58 y59∧a=⟨#[v0, .pointer (some ⟨b,0,none⟩),v2, .pointer (some ⟨g,0,none⟩),v4, .int .i64 (j:Int),v6,v7,v8,v9,v10,v11,v12,v13,v14,v15,v16,v17,v18,v19,v20,v21,v22,v23,v24,v25,v26,v27,v28,v29,v30,v31,v32,v33,v34,v35,v36,v37,v38,v39,v40,y41,y42,y43,y44,y45,y46,y47,y48,y49,y50,y51,y52,y53,y54,y55,y56,y57,y58,y59,v60],[]⟩) (by kernel_rfl) (Czi (by kernel_rfl)) ?start ?step ?fin
 case start=>
  refine⟨_,_,_,_,_,_,_,_,_,_,_,_,_,_,_,_,_,_,_,?_,rfl⟩;constructor
  all_goals first|exact⟨fun _=>hbs,fun _=>Tch.of_below hbs⟩|exact fun _=>rfl|exact fun h=>absurd h (by decide)
 case step=>
  intro i o ho listed a W hl haf hI K hK;obtain⟨y41,y42,y43,y44,y45,y46,y47,y48,y49,y50,y51,y52,y53,y54,y55,y56,y57,y58,y59,hJ,rfl⟩:=hI;have hK:=fun (W':World) z41 z42 z43 z44 z45 z46 z47 z48 z49 z50 z51 z52 z53 z54 z55 z56 z57 z58 z59 h=>hK _ W' ⟨z41,z42,z43,z44,z45,z46,z47,z48,z49,z50,z51,z52,z53,z54,z55,z56,z57,z58,z59,h,rfl⟩
  simp only[Az2] at hK;have hi:i<20:=(Array.getElem?_eq_some_iff.1 ho).1;have h16:i=0∨i=1∨i=2∨i=3∨i=4∨i=5∨i=6∨i=7∨i=8∨i=9∨i=10∨i=11∨i=12∨i=13∨i=14∨i=15∨i=16∨i=17∨i=18∨i=19:=by omega
  rcases h16 with rfl|rfl|rfl|rfl|rfl|rfl|rfl|rfl|rfl|rfl|rfl|rfl|rfl|rfl|rfl|rfl|rfl|rfl|rfl|rfl
  all_goals
   have ho:=Option.some.inj ho;subst ho
   try simp[Region.binds] at haf
  ·
    go_simp;apply hK;exact { hJ with f0:=fun _=>rfl,w:=⟨fun h=>hJ.w.1 h,fun h=>hJ.w.2 h⟩ }
  ·
    obtain rfl:=hJ.f0 (Az0 (by simp[haf]));have h17:=nlR hJ.q17_1 hl;have hkk:=hbg.below (hJ.w.1 h17) hbg.lt;have e1:=hkk.cell 4;have el:=hkk.lt;simp at e1;go_simp;apply hK;exact { hJ with f1:=fun _=>rfl,q17_1:=fun _=>rfl,w:=⟨fun h=>hJ.w.1 h,fun h=>hJ.w.2 h⟩ }
  ·
    go_simp;apply hK;exact { hJ with f2:=fun _=>rfl,w:=⟨fun h=>hJ.w.1 h,fun h=>hJ.w.2 h⟩ }
  ·
    obtain rfl:=hJ.f2 (Az0 (by simp[haf]));have h17:=nlR hJ.q17_3 hl;have hkk:=hbx.below (hJ.w.1 h17) hbx.lt;have e1:=hkk.cell 4;have el:=hkk.lt;simp at e1;go_simp;apply hK;exact { hJ with f3:=fun _=>rfl,q17_3:=fun _=>rfl,q5_3:=fun _=>rfl,w:=⟨fun h=>hJ.w.1 h,fun h=>hJ.w.2 h⟩ }
  ·
    go_simp;apply hK;exact { hJ with f4:=fun _=>rfl,w:=⟨fun h=>hJ.w.1 h,fun h=>hJ.w.2 h⟩ }
  ·
    have p3:listed.getD 3 true=true:=Az0 (by simp[haf]);obtain rfl:=hJ.f3 p3;obtain rfl:=hJ.f4 (Az0 (by simp[haf]));have hu1:(j:Int)<(np:Int):=by omega
    go_simp;apply hK;exact { hJ with f5:=fun _=>rfl,q6_5:=fun _=>rfl,q5_3:=fun _=>p3,w:=⟨fun h=>hJ.w.1 h,fun h=>hJ.w.2 h⟩ }
  ·
    have p5:listed.getD 5 true=true:=Az0 (by simp[haf]);obtain rfl:=hJ.f5 p5;go_simp;apply hK;exact { hJ with f6:=fun _=>rfl,q7_6:=fun _=>rfl,q6_5:=fun _=>p5,w:=⟨fun h=>hJ.w.1 h,fun h=>hJ.w.2 h⟩ }
  ·
    have p6:listed.getD 6 true=true:=Az0 (by simp[haf]);obtain rfl:=hJ.f6 p6;have h17:=nlR hJ.q17_7 hl;have e1:=((hJ.w.1 h17).cell (p:=⟨bb,_,none⟩) hlb).trans hz0;have el:=Nat.lt_of_lt_of_le hlb (hJ.w.1 h17).size;go_simp;apply hK;exact { hJ with f7:=fun _=>rfl,f15:=fun x=>by have e:=hJ.q15_7 x;rw[hl] at e;exact absurd e (by decide),q17_7:=fun _=>rfl,q15_7:=fun _=>rfl,q7_6:=fun _=>p6,w:=⟨fun h=>hJ.w.1 h,fun h=>hJ.w.2 h⟩ }
  ·
    go_simp;apply hK;exact { hJ with f8:=fun _=>rfl,w:=⟨fun h=>hJ.w.1 h,fun h=>hJ.w.2 h⟩ }
  ·
    obtain rfl:=hJ.f8 (Az0 (by simp[haf]));have h17:=nlR hJ.q17_9 hl;have hkk:=hbx.below (hJ.w.1 h17) hbx.lt;have e1:=hkk.cell 4;have el:=hkk.lt;simp at e1;go_simp;apply hK;exact { hJ with f9:=fun _=>rfl,q17_9:=fun _=>rfl,q11_9:=fun _=>rfl,w:=⟨fun h=>hJ.w.1 h,fun h=>hJ.w.2 h⟩ }
  ·
    go_simp;apply hK;exact { hJ with f10:=fun _=>rfl,w:=⟨fun h=>hJ.w.1 h,fun h=>hJ.w.2 h⟩ }
  ·
    have p9:listed.getD 9 true=true:=Az0 (by simp[haf]);obtain rfl:=hJ.f9 p9;obtain rfl:=hJ.f10 (Az0 (by simp[haf]));have hu1:(j:Int)<(np:Int):=by omega
    go_simp;apply hK;exact { hJ with f11:=fun _=>rfl,q12_11:=fun _=>rfl,q11_9:=fun _=>p9,w:=⟨fun h=>hJ.w.1 h,fun h=>hJ.w.2 h⟩ }
  ·
    have p11:listed.getD 11 true=true:=Az0 (by simp[haf]);obtain rfl:=hJ.f11 p11;go_simp;apply hK;exact { hJ with f12:=fun _=>rfl,q13_12:=fun _=>rfl,q12_11:=fun _=>p11,w:=⟨fun h=>hJ.w.1 h,fun h=>hJ.w.2 h⟩ }
  ·
    have p12:listed.getD 12 true=true:=Az0 (by simp[haf]);obtain rfl:=hJ.f12 p12;have h17:=nlR hJ.q17_13 hl;have e1:=((hJ.w.1 h17).cell (p:=⟨bb,_,none⟩) hlb).trans hz1;have el:=Nat.lt_of_lt_of_le hlb (hJ.w.1 h17).size;go_simp;apply hK;exact { hJ with f13:=fun _=>rfl,q17_13:=fun _=>rfl,q14_13:=fun _=>rfl,q13_12:=fun _=>p12,w:=⟨fun h=>hJ.w.1 h,fun h=>hJ.w.2 h⟩ }
  ·
    have p13:listed.getD 13 true=true:=Az0 (by simp[haf]);obtain rfl:=hJ.f13 p13;have h17:=nlR hJ.q17_14 hl;have hbw:=hJ.w.1 h17;obtain⟨im,him,hz0,hz1,hz2⟩:=info_parts Ezf;have hU:=Tryz.underlying50;refine Bz0 _ rfl _ _ _ rfl w0.heap.size 54 im _ 3 24 hU him hz0 hz1 hz2 rfl (by omega) rfl w0.heap.size A1 el c1 (Azg xs) rfl (hA1R.below hbw) (Hzm _) (by unfold maxLen;omega) (by omega) hbw.size ?_;intro A5 c5 w5 hown5 hbw5;apply hK;exact { hJ with f14:=fun _=>⟨_,rfl,fun h=>hown5⟩,f15:=fun x=>by have e:=hJ.q15_14 x;rw[hl] at e;exact absurd e (by decide),f16:=fun x=>by have e:=hJ.q16_14 x;rw[hl] at e;exact absurd e (by decide),f17:=fun x=>by have e:=hJ.q17_14 x;rw[hl] at e;exact absurd e (by decide),f19:=fun x=>by have e:=hJ.q19_14 x;rw[hl] at e;exact absurd e (by decide),q19_14:=fun _=>rfl,q17_14:=fun _=>rfl,q15_14:=fun _=>rfl,q14_13:=fun _=>p13,q16_14:=fun _=>rfl,w:=⟨fun h=>(hJ.w.1 h).trans (hbw5.mono (hJ.w.1 h).size),fun h=>(hJ.w.2 h).trans (Tch.of_below hbw5)⟩ }
  ·
    have p7:listed.getD 7 true=true:=Az0 (by simp[haf]);have p14:listed.getD 14 true=true:=Az0 (by simp[haf]);obtain rfl:=hJ.f7 p7;obtain⟨s14,rfl,hE14⟩:=hJ.f14 p14;have h17:=nlR hJ.q17_15 hl;obtain⟨Z,z,rfl⟩:=Az1 (hE14 h17);go_simp;apply hK;exact { hJ with f15:=fun _=>rfl,q17_15:=fun _=>rfl,q16_15:=fun _=>rfl,q15_7:=fun _=>p7,q15_14:=fun _=>p14,w:=⟨fun h=>hJ.w.1 h,fun h=>hJ.w.2 h⟩ }
  ·
    have p15:listed.getD 15 true=true:=Az0 (by simp[haf]);have p14:listed.getD 14 true=true:=hJ.q15_14 p15;obtain rfl:=hJ.f15 p15;obtain rfl:=hJ.f7 (hJ.q15_7 p15);obtain⟨s14,rfl,hE14⟩:=hJ.f14 p14;have h17:=nlR hJ.q17_16 hl;obtain⟨Z,z,rfl⟩:=Az1 (hE14 h17);go_simp;apply hK;exact { hJ with f14:=fun x=>by obtain⟨s,e1,e2⟩:=hJ.f14 x;exact⟨s,e1,fun h=>(e2 h).alloc _⟩,f16:=fun _=>⟨W.heap.size,rfl,(hJ.w.1 h17).size,by simp,fun _=>Blk.new _ _ _⟩,f17:=fun x=>by have e:=hJ.q17_16 x;rw[hl] at e;exact absurd e (by decide),f19:=fun x=>by have e:=hJ.q19_16 x;rw[hl] at e;exact absurd e (by decide),q19_16:=fun _=>rfl,q17_16:=fun _=>rfl,q16_15:=fun _=>p15,q16_14:=fun _=>p14,w:=⟨fun h=>(hJ.w.1 h).alloc (hJ.w.1 h).size _,fun h=>(hJ.w.2 h).trans (Tch.of_below ((Below.refl _ _).alloc (Nat.le_refl _) _))⟩ }
  ·
    have p1:listed.getD 1 true=true:=Az0 (by simp[haf]);have p16:listed.getD 16 true=true:=Az0 (by simp[haf]);have p14:listed.getD 14 true=true:=Az0 (by simp[haf]);have p15:listed.getD 15 true=true:=hJ.q16_15 p16;have p7:listed.getD 7 true=true:=hJ.q15_7 p15;have p6:listed.getD 6 true=true:=hJ.q7_6 p7;have p5:listed.getD 5 true=true:=hJ.q6_5 p6;have p3:listed.getD 3 true=true:=hJ.q5_3 p5;have p13:listed.getD 13 true=true:=hJ.q14_13 p14;have p12:listed.getD 12 true=true:=hJ.q13_12 p13;have p11:listed.getD 11 true=true:=hJ.q12_11 p12;have p9:listed.getD 9 true=true:=hJ.q11_9 p11;obtain rfl:=hJ.f1 p1;obtain⟨s16,rfl,hE16⟩:=hJ.f16 p16;obtain⟨s14,rfl,hE14⟩:=hJ.f14 p14;obtain⟨hs1,hs2,hs3⟩:=hE16;have hbl:=hs3 hl;have hbw:=hJ.w.1 hl;have hO:=hE14 hl;obtain⟨Z,z,rfl⟩:=Az1 hO;obtain⟨im,him,hz0,hz1,hz2⟩:=info_parts Hzr;have hU:=Tryz.underlying28;refine step_append_lies _ rfl _ _ _ rfl B 52 im _ 2 32 hU him hz0 hz1 hz2 rfl (by omega) (.slice AV nn cV) nn ps rfl (own_below hown hbw) ⟨s16,0,none⟩ 1 1 [.bool lv, .slice Z el z] rfl rfl (World.news_of_block (fr:=(0,0)) hbl) (by intro u hu;simp at hu;rcases hu with rfl|rfl<;>rfl) (by omega) (by unfold maxLen;omega) (by omega) (Nat.le_trans hBw hbw.size) W.heap.size rfl ?_;intro gq cap w5 hown5 hgrow5 hat5 hlt5;apply hK;exact { hJ with f14:=fun x=>by obtain⟨s,e1,e2⟩:=hJ.f14 x;exact⟨s,e1,tfR⟩,f16:=fun x=>by obtain⟨s,e1,e2⟩:=hJ.f16 x;exact⟨s,e1,⟨e2.1,Nat.lt_of_lt_of_le e2.2.1 hgrow5.size,tfR⟩⟩,f17:=fun _=>⟨_,rfl,fun h=>⟨W,hbw,hO,hown5,hgrow5⟩⟩,f19:=fun x=>by have e:=hJ.q19_17 x;rw[hl] at e;exact absurd e (by decide),q19_17:=fun _=>rfl,q17_1:=fun _=>p1,q17_16:=fun _=>p16,q17_14:=fun _=>p14,q17_15:=fun _=>p15,q17_7:=fun _=>p7,q17_3:=fun _=>p3,q17_13:=fun _=>p13,q17_9:=fun _=>p9,w:=⟨tfR,fun h=>(hJ.w.2 h).trans (Tch.of_grown (own_below hown hbw) hgrow5)⟩ }
  ·
    go_simp;apply hK;exact { hJ with f18:=fun _=>rfl,w:=⟨fun h=>hJ.w.1 h,fun h=>hJ.w.2 h⟩ }
  ·
    have p17:listed.getD 17 true=true:=Az0 (by simp[haf]);have p16:listed.getD 16 true=true:=Az0 (by simp[haf]);have p14:listed.getD 14 true=true:=Az0 (by simp[haf]);obtain rfl:=hJ.f18 (Az0 (by simp[haf]));obtain⟨s17,rfl,hE17⟩:=hJ.f17 p17;obtain⟨s16,rfl,hE16⟩:=hJ.f16 p16;obtain⟨s14,rfl,hE14⟩:=hJ.f14 p14;obtain⟨W1,hb1,hX,hO,hG⟩:=hE17 hl;obtain⟨AW,cW,rfl⟩:=Az1 hO;have hkk:=hbg.tch (hJ.w.2 hl) (by decide);obtain⟨-, -, -, -,e0, -, -, -, -,f0,el⟩:=hkk.a5;simp at e0;go_simp;apply hK;exact { hJ with f14:=fun x=>by obtain⟨s,e1,e2⟩:=hJ.f14 x;exact⟨s,e1,fun h=>(tfR (p17.symm.trans h))⟩,f16:=fun x=>by obtain⟨s,e1,e2⟩:=hJ.f16 x;exact⟨s,e1,⟨e2.1,by simpa using e2.2.1,fun h=>(tfR (p17.symm.trans h))⟩⟩,f17:=fun x=>by obtain⟨s,e1,e2⟩:=hJ.f17 x;exact⟨s,e1,tfR⟩,f19:=fun _=>⟨_,_,W1,W,hb1,hX,hO,hG,rfl⟩,q19_17:=fun _=>p17,q19_16:=fun _=>p16,q19_14:=fun _=>p14,w:=⟨fun h=>(tfR (p17.symm.trans h)),tfR⟩ }
 case fin=>
  intro listed a W hall hI;obtain⟨y41,y42,y43,y44,y45,y46,y47,y48,y49,y50,y51,y52,y53,y54,y55,y56,y57,y58,y59,hJ,rfl⟩:=hI;exact HQ.out listed W _ _ _ _ _ _ _ _ _ _ _ _ _ _ _ _ _ _ _ hall hJ
end Go.Proofs.YtdjamdbamkhblacGreatDoor
