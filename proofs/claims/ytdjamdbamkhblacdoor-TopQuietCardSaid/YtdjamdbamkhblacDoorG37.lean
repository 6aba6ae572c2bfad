/- The walk of K.Data: bytes of raw things. No condition. A row of acts of a call's own; an append of a literal; one slice in a block. No condition. The walk of top.installed: two acts, a module of raw things is installed, and attached. Condition: the listed table. The drawn region of keep.Acts. No condition. By an AI agent (xacts.py). -/
import Derived.Test.YtdjamdbamkhblacDoorG36
import Derived.Test.YtdjamdbamkhblacDoorG35
import Derived.BigQuiet
import Derived.Deep.DeepCutAuto
set_option maxHeartbeats 8000000
set_option maxRecDepth 1000000
namespace Go.Proofs.YtdjamdbamkhblacDoor
open Go.RowKit
set_option linter.unusedVariables false
set_option linter.unusedSimpArgs false
structure DatS (w wr:World) (r:Ins) (n k:Nat) (cs:Array Value):Prop where
 below:Below w.heap.size w wr
 raw:Blk wr w.heap.size 23 #[.int .i64 r.op, .int .i64 r.a, .int .i64 r.b, .int .i64 r.c]
 blk:Blk wr (w.heap.size+1) 5 cs
 size:cs.size=n
 known:∀ j,j<k→cs[j]? =some (.int .u8 ((97+(j+pick r.b 26) % 26:Nat):Int))
theorem DatS.next {w wr:World} {r:Ins} {n k:Nat} {cs:Array Value} (h:DatS w wr r n k cs) (hk:k<n):DatS w (wr.setCell ⟨w.heap.size+1,k,none⟩ (.int .u8 ((97+(k+pick r.b 26) % 26:Nat):Int))) r n (k+1) (cs.setIfInBounds k (.int .u8 ((97+(k+pick r.b 26) % 26:Nat):Int))):=by
 refine⟨h.below.setCell (p:=⟨w.heap.size+1,k,none⟩) (by simp) _,h.raw.far (by simp) _,h.blk.set_ k _,by simp[h.size],fun j hj=>?_⟩;rw[Array.getElem?_setIfInBounds];by_cases e:k=j
 ·subst e
  simp[h.size,hk]
 ·rw[if_neg e]
  exact h.known j (by omega)
theorem DatS.start (w:World) (r:Ins) (n:Nat):DatS w ((w.alloc (.cells #[.int .i64 r.op, .int .i64 r.a, .int .i64 r.b, .int .i64 r.c] 23)).alloc (.cells (madeCells #[.int .u8 0] n) 5)) r n 0 (madeCells #[.int .u8 0] n):=by
 have h1:=(Below.refl w.heap.size w).alloc (Nat.le_refl _) (.cells #[.int .i64 r.op, .int .i64 r.a, .int .i64 r.b, .int .i64 r.c] 23);exact⟨h1.alloc h1.size _,(Blk.new w _ _).alloc _,Blk.new' (by simp),by rw[size_madeCells],fun j hj=>by omega⟩
theorem Ez3 (b:Int) (k:Nat):(Fzv b k).length=k:=by simp[Fzv]
theorem DatS.row {w wr:World} {r:Ins} {n:Nat} {cs:Array Value} (h:DatS w wr r n n cs) (hn:n≤maxLen):ByRow wr w.heap.size (w.heap.size+1) n (Fzv r.b n):=by
 have hl:=Ez3 r.b n;refine⟨by omega,by omega,hn,fun j hj=>?_,fun j hj=>?_,fun j hj=>h.blk.frozen j,⟨cs,(0,0),h.blk⟩⟩
 ·rw[h.blk.cell,h.known j (by omega)]
  congr 2
  simp only[Fzv,List.getElem_map,List.getElem_range];rw[Dzm];omega
 ·rw[h.blk.cell,Array.getElem?_eq_getElem (by rw[h.size];exact hj)]
  rfl
theorem Mz8 (r:Ins) (hr:r.wf) (w:World):
  Calls Tryd.prog 12 #[.agg #[.int .i64 r.op, .int .i64 r.a, .int .i64 r.b, .int .i64 r.c]] w fun e w'=>e= .returned (.string (Fzu r.a r.b))∧Below w.heap.size w w':=by
 obtain⟨_,hra,hrb,_⟩:=hr;obtain⟨p,hp⟩:∃ p,p=pick r.a 30:=⟨_,rfl⟩;have hp30:p<30:=by rw[hp];exact Bz5 _ (by omega)
 have CA:Hid (∀ W:World,Calls Tryd.prog 13 #[.int .i64 r.a, .int .i64 30] W fun e w'=>e= .returned (.int .i64 (p:Nat))∧W=w'):=fun W=>by rw[hp];exact Azd r.a 30 W hra.1 hra.2 (by omega) (by omega)
 obtain⟨q,hq⟩:∃ q,q=pick r.b 26:=⟨_,rfl⟩;have hq26:q<26:=by rw[hq];exact Bz5 _ (by omega)
 have CB:Hid (∀ W:World,Calls Tryd.prog 13 #[.int .i64 r.b, .int .i64 26] W fun e w'=>e= .returned (.int .i64 (q:Nat))∧W=w'):=fun W=>by rw[hq];exact Azd r.b 26 W hrb.1 hrb.2 (by omega) (by omega)
 have HV:Hid (Fzu r.a r.b=⟨(Fzv r.b (1+p)).toArray⟩):=by show _=_;rw[hp];rfl
 have HQ:=Lib.hid hq;have hmk:∀ w:World,(Instr.makeSlice 84 (.int .i64 (1+(p:Int))) (.int .i64 (1+(p:Int)))).run Tryd.prog w= .ok (.slice (some ⟨w.heap.size,0,none⟩) (1+p) (1+p)) (w.alloc (.cells (madeCells #[.int .u8 0] (1+p)) 5)):=fun w=>by
  have e:=Ez7 w 84 5 _ 1 1 (1+p) Tryd.underlying84 Hz1 (by omega) (by omega);have ec:((1+p:Nat):Int)=1+(p:Int):=by omega
  rw[Nat.mul_one,ec] at e;exact e
 have hS:=DatS.start w r (1+p);clear hp hq hra hrb;go_enter Tryd.func12,Tryd.ntmps12;go_wp2_with (first|(go_at_call 13;(with_reducible refine(CA.out _).mono ?_);rintro e w' ⟨rfl,rfl⟩));go_loopw [12] (fun i wr=>Cnt (1+p) i fun k=>∃ cs,DatS w wr r (1+p) k cs) (fun i _=>1+p - (intOf i).toNat)
 case atStart=>exact⟨0,Nat.zero_le _,rfl,_,hS⟩
 case round=>
  clear hS;obtain⟨k,hk',rfl,cs,hS⟩:=hrel;by_cases hlt:k<1+p
  ·have hkp:(k:Int)<1+(p:Int):=by omega
   obtain⟨x0,hx0⟩:∃ x0,cs[k]? =some x0:=⟨_,Array.getElem?_eq_getElem (by rw[hS.size];exact hlt)⟩;have c0:=(hS.blk.cell k).trans hx0;have f0:=hS.blk.frozen k;have bl:=hS.blk.lt;obtain⟨-, -,d2, -, -, -,dl⟩:=hS.raw.a3;simp at d2;have HN:=Lib.hid (hS.next hlt);have HK:=Lib.hid hkp;clear hS hx0;go_wp2_with (first|(go_at_call 13;(with_reducible refine(CB.out _).mono ?_);rintro e w' ⟨rfl,rfl⟩));have e1:97+((k:Int)+(q:Int)) % 26=((97+(k+pick r.b 26) % 26:Nat):Int):=by rw[←HQ.out];omega
   exact⟨⟨k+1,by omega,by go_num,_,by rw[e1];exact HN.out⟩,by simp[intOf];omega⟩
  ·obtain rfl:k=1+p:=by omega
   have HRW:=hS.row (by unfold maxLen;omega);have hcv:=Jzy (cap:=1+p) HRW;rw[Ez3] at hcv;have HB:=Lib.hid hS.below;clear hS HRW;go_wp2;go_ret;rw[HV.out];exact⟨rfl,HB.out⟩
structure RowA (w W:World) (A:Option Addr) (c:Nat) (l:List Akt):Prop where
 own:W.ownsRow w.heap.size 26 6 (.slice A l.length c) l.length (Azr l)
 be:Below w.heap.size w W
theorem RowA.below {w W W':World} {A:Option Addr} {c:Nat} {l:List Akt} (h:RowA w W A c l) (hb:Below W.heap.size W W'):RowA w W' A c l:=⟨own_below h.own hb,h.be.trans (hb.mono h.be.size)⟩
theorem RowA.lit {w W:World} (hb:Below w.heap.size w W) {l:List Akt} {cs:Array Value} (hcs:cs=(Azr l).toArray) (hl:l.length≤100000):RowA w (W.alloc (.cells cs 26)) (some ⟨W.heap.size,0,none⟩) l.length l:=by
 have hs:cs.size=l.length*6:=by rw[hcs];simp[Bzz]
 have h:=World.ownsRow_lit (base:=w.heap.size) (e:=26) (size:=6) W cs l.length hb.size (by simp[maxLen];omega) hs;rw[hcs] at h;rw[hcs];exact⟨h,hb.alloc hb.size _⟩
theorem Szo {w W:World} {ops:Array Oper} {rest:List Oper} {o:Oper} {a:Act} {Q:Exit→Act→World→Prop} {A:Option Addr} {c:Nat} {l:List Akt} (x:List Akt) {cs:Array Value} {m c2:Nat} (hW:RowA w W A c l) (hgd:o.guard=none) (s y:Operand)
  (ho:o.op= .call { callee:= .builtin .append,args:= #[s,y],argTypes:= #[27,27] }) (hs:a.eval s= .slice A l.length c) (hy:a.eval y= .slice (some ⟨W.heap.size,0,none⟩) m c2) (hm:m=x.length) (hcs:cs=(Azr x).toArray) (hlen:l.length+x.length≤100000)
  (h:∀ A' c' w',RowA w w' A' c' (l++x)→wpList Tryd.prog ops Q rest (a.put o.dst (.slice A' (l++x).length c')) w'):wpList Tryd.prog ops Q (o::rest) a (W.alloc (.cells cs 26)):=by
 obtain⟨i0,hi0,hz0,hz1,hz2⟩:=info_parts Hz6;have hba:=(Below.refl W.heap.size W).alloc (Nat.le_refl _) (.cells cs 26);have hW2:=hW.below hba;have hr:=(RdA.blk (Blk.new W 26 cs) hcs).rd;rw[hm] at hy;refine Az4 _ hgd s y _ ho w.heap.size 26 i0 _ 6 64 Tryd.underlying27 hi0 hz0 hz1 hz2 rfl (by omega) (.slice A l.length c) l.length (Azr l) hs hW2.own _ _ x.length c2 (Azr x) hy hr (Mzb _) (by simp[maxLen];omega) (by omega) hW2.be.size ?_;intro v1 w3 hv1 hg1 _;obtain⟨A2,k2,rfl⟩:=Az5 hv1;rw[←List.length_append];refine h A2 k2 w3 ⟨?_,hW2.be.grown hg1 hW2.be.size fun q hq=>(hW2.own.lt q hq).1⟩;rw[List.length_append,Fz6];exact hv1
theorem Sls.one {w W:World} {A:Option Addr} {c:Nat} {l:List Akt} {t:TypeId} (h:RowA w W A c l):Sls (W.alloc (.cells #[.slice A l.length c] t)) (W.alloc (.cells #[.slice A l.length c] t)).heap.size W.heap.size [(A,c,l)]:=by
 have hba:=(Below.refl W.heap.size W).alloc (Nat.le_refl _) (.cells #[.slice A l.length c] t);refine⟨by simp,fun q hq=>?_,fun q hq=>?_⟩
 ·have:q=0:=by simp at hq;omega
  subst this;exact(Blk.new W t #[.slice A l.length c]).cell 0
 ·have:q=0:=by simp at hq;omega
  subst this;exact RdA.of ((Rd.of_own (h.below hba).own))
def insM (l:List Ins) (r:Ins) (nm:ByteArray):Mod:=⟨nm,madeOf (Azl l),Dzs r 20⟩
def insL (l:List Ins) (r:Ins) (nm:ByteArray) (n:Int):List Akt:=[⟨1,0,0,0,noS,(encR (insM l r nm)).1⟩,⟨3,0,n,0,nm,noS⟩]
theorem Pz6 (l:List Ins):Fzc (Azl l)=(madeOf (Azl l),0):=by
 have h1:=Eze l;have h2:=Hzi l;have h3:=Dzw l;have hc:check (Azl l)=0:=(Azo _).2 ⟨by omega,h1.2.1⟩;unfold Fzc;rw[if_pos hc,if_pos (by unfold Ezb;simp[h2]),if_neg (by omega)]
theorem Hz8 {α:Type} (f:α→List UInt8) (s:Nat) (hf:∀ x,(f x).length=s):∀ l:List α,(l.flatMap f).length=s*l.length
 | []=>rfl
 | x::r=>by rw[List.flatMap_cons,List.length_append,hf,Hz8 f s hf r,List.length_cons,Nat.mul_succ];omega
theorem Pz7 (l:List Ins) (r:Ins) (nm:ByteArray) (hn:nm.size≤1000):(encR (insM l r nm)).1.size≤2000:=by
 have h3:=Dzw l;have hz:nm.data.toList.length=nm.size:=by simp
 have e:(encB (insM l r nm)).length=4+(1+nm.size+1+4*(madeOf (Azl l)).length+1+2*(Dzs r 20).length):=by
  unfold encB Fzt insM;simp only[List.length_append,Bzn,Hz8 insB 4 (fun _=>rfl),Hz8 Gzd 2 (fun _=>rfl),List.length_cons,List.length_nil,hz]
 rw[Bzd] at e;unfold encR;split
 ·rw[Ezs]
  omega
 ·show 0≤2000
  omega
theorem Tz0 (l:List Ins) (r:Ins) (nm:ByteArray) (n:Int) (hn:nm.size≤1000):∀ x∈insL l r nm n,x.name.size≤maxLen∧x.data.size≤maxLen:=fun x hx=>by
 have h:=Pz7 l r nm hn;have h0:noS.size≤maxLen:=by decide
 simp only[insL,List.mem_cons,List.not_mem_nil,or_false] at hx;rcases hx with rfl|rfl
 ·exact⟨h0,by unfold maxLen;show (encR (insM l r nm)).1.size≤_;omega⟩
 ·exact⟨by unfold maxLen;show nm.size≤_;omega,h0⟩
theorem Ozd (A:Option Addr) (c:Nat) (l:List Ins) (r:Ins) (nm:ByteArray) (n:Int) (w:World) (hr:RdI w w.heap.size A l) (hwf:∀ i∈l,i.wf) (hl:l.length≤maxLen) (hrw:r.wf) (ht:Tab w) (hn:nm.size≤1000):
  Calls Tryd.prog 30 #[.slice A l.length c, .agg #[.int .i64 r.op, .int .i64 r.a, .int .i64 r.b, .int .i64 r.c], .string nm, .int .i64 n] w fun e w'=>∃ A' c',e= .returned (.slice A' (insL l r nm n).length c')∧RowA w w' A' c' (insL l r nm n):=by
 have hb0:=Azc w (.cells #[.int .i64 r.op, .int .i64 r.a, .int .i64 r.b, .int .i64 r.c] 23);have HX:=Lib.hid (Blk.new w 23 #[.int .i64 r.op, .int .i64 r.a, .int .i64 r.b, .int .i64 r.c]);have HR:=Lib.hid ((hr.below hb0).more hb0.size);have HT:=Lib.hid ht;have HWF:=Lib.hid hwf;have HRW:=Lib.hid hrw;have HB:=Lib.hid hb0;have HM:=Lib.hid (Pz6 l);have HP:=Lib.hid (Eze l).2.2.2;have HQ:=Lib.hid (Dzw l).2.1;have HQ0:=Lib.hid (show noS.size=0 from rfl);clear hr hwf hrw ht hb0;go_enter Tryd.func30,Tryd.ntmps30;go_wp2_with fail;refine(Kzq A c l _ HR.out HWF.out hl).mono ?_;rintro e w1 ⟨V,rfl,hV,hb1⟩;obtain⟨A1,c1,rfl⟩:=Az5 hV;have HB1:=Lib.hid (HB.out.trans (hb1.mono HB.out.size));have HX1:=Lib.hid (HX.out.below hb1 HX.out.lt);have HR1:=Lib.hid (RdI.of (Rd.of_own hV));clear hV hb1 HB HX HR;go_wp2_with fail;refine(Ozf A1 c1 (Azl l) w1 HR1.out (HT.out.below HB1.out) (by unfold maxLen;have:=HP.out;omega)).mono ?_;rintro e w2 ⟨V2,rfl,hV2,hb2⟩;rw[HM.out] at hV2;rw[HM.out];simp only at hV2;obtain⟨A2,c2,rfl⟩:=Az5 hV2;have HB2:=Lib.hid (HB1.out.trans (hb2.mono HB1.out.size));have HX2:=HX1.out.below hb2 HX1.out.lt;have HV2:=Lib.hid hV2;obtain⟨x0,x1,x2,x3, -, -, -, -,xl⟩:=HX2.a4;simp at x0 x1 x2 x3;clear hV2 hb2 HB1 HX1 HR1 HX2;go_wp2_with fail;refine(Oze r HRW.out 20 (by omega) w2).mono ?_;rintro e w3 ⟨V3,rfl,hV3,hb3⟩;obtain⟨A3,c3,e3⟩:∃ A3 c3,V3= .slice A3 (Dzs r 20).length c3:=by
  obtain⟨A3,c3,h⟩:=Az5 hV3;exact⟨A3,c3,by rw[Bzd];exact h⟩
 subst e3;have hml:(Dzs r 20).length=20:=Bzd _ _;have HB3:=Lib.hid (HB2.out.trans (hb3.mono HB2.out.size));have HV3:Hid (RdN w3 w3.heap.size A3 (Dzs r 20)):=by
  refine RdN.of ?_;have h:=Rd.of_own hV3;rw[hml] at h ⊢;exact h
 have HC:=Lib.hid (Kzm (insM l r nm) A2 A3 c2 c3 w3 (by show nm.size≤maxLen;unfold maxLen;omega) (RdI.of (Rd.of_own (own_below HV2.out hb3))) HV3.out (HT.out.below HB3.out) (by show (madeOf (Azl l)).length≤maxLen;unfold maxLen;have:=HQ.out;omega) (by show (Dzs r 20).length≤maxLen;rw[hml];unfold maxLen;omega));clear hV3 hb3 x0 x1 x2 x3 xl HB2 HV2 HV3;go_wp2_with fail;refine HC.out.mono ?_;rintro e w4 ⟨rfl,hb4⟩;have HB4:=HB3.out.trans (hb4.mono HB3.out.size);have HF:=RowA.lit HB4 (l:=insL l r nm n) (cs:= #[.int .i64 1, .int .i64 0, .int .i64 0, .int .i64 0, .string ⟨#[]⟩, .string (encR (insM l r nm)).1, .int .i64 3, .int .i64 0, .int .i64 n, .int .i64 0, .string nm, .string ⟨#[]⟩]) rfl (by show 2≤100000;omega);have HFF:=Lib.hid HF;clear HF HB4 hb4 HC HB3 hml;obtain⟨D,hD⟩:∃ D,D=(encR (insM l r nm)).1:=⟨_,rfl⟩;rw[←hD] at HFF ⊢;clear hD;go_wp2;go_ret;exact⟨_,_,rfl,HFF.out⟩
structure AcJ (w0:World) (bR pa pb pc:Nat) (ra rb rc:Int) (nm:ByteArray) (t0t t1t t2t t3t t4t t5t t6t t7t t8t t9t t10t t11t t12t t13t t14t:Bool) (W:World) (y8 y25 y26 y27 y28 y29 y30 y31 y32 y33 y34 y35 y36 y37:Value):Prop where
 f0:t0t=true→y25= .pointer (some ⟨bR,1,none⟩)
 f1:t1t=true→y26= .int .i64 ra
 f2:t2t=true→y27= .int .i64 (pa:Int)
 f3:t3t=true→y28= .pointer (some ⟨bR,2,none⟩)
 f4:t4t=true→y29= .int .i64 rb
 f5:t5t=true→y30= .int .i64 (pb:Int)
 f6:t6t=true→∃ s:Nat,y31= .slice (some ⟨s,0,none⟩) 3 3∧(t14t=false→s<W.heap.size∧W.cell? ⟨s,pc,none⟩=some (.string nm))
 f7:t7t=true→y32= .pointer (some ⟨bR,3,none⟩)
 f8:t8t=true→y33= .int .i64 rc
 f9:t9t=true→y34= .int .i64 (pc:Int)
 f10:t10t=true→∃ s:Nat,y35= .pointer (some ⟨s,pc,none⟩)∧(t14t=false→s<W.heap.size∧W.cell? ⟨s,pc,none⟩=some (.string nm))
 f11:t11t=true→y36= .string nm
 f12:t12t=true→y37= .agg #[.int .i64 0, .int .i64 (pa:Int), .int .i64 (pb:Int), .int .i64 0, .string nm, .string ⟨#[]⟩]
 f13:t13t=true→∃ s:Nat,y8= .pointer (some ⟨s,0,none⟩)∧(t14t=false→w0.heap.size≤s∧Blk W s 26 #[.int .i64 0, .int .i64 0, .int .i64 0, .int .i64 0, .string ⟨#[]⟩, .string ⟨#[]⟩])
 f14:t14t=true→∃ s,y8= .pointer (some ⟨s,0,none⟩)∧w0.heap.size≤s∧Blk W s 26 #[.int .i64 0, .int .i64 (pa:Int), .int .i64 (pb:Int), .int .i64 0, .string nm, .string ⟨#[]⟩]
 q14_10:t14t=true→t10t=true
 q14_11:t14t=true→t11t=true
 q14_13:t14t=true→t13t=true
 q14_6:t14t=true→t6t=true
 w:Below w0.heap.size w0 W
noncomputable def Rzv:Code:=((Tryd.f15.body.bind (Dz9 6)).getD .skip)
theorem Szu (w0:World) (bR pa pb pc:Nat) (ra rb rc:Int) (nm:ByteArray) {v0 v1 v2 v3 v4 v5 v6 v8 v9 v10 v11 v12 v13 v14 v15 v16 v17 v18 v19 v20 v21 v22 v23 v24 v25 v26 v27 v28 v29 v30 v31 v32 v33 v34 v35 v36 v37 v38 v39 v40 v41 v42 v43 v44 v45 v46 v47 v48 v49 v50 v51 v52 v53 v54 v55 v56 v57 v58 v59 v60 v61 v62 v63 v64 v65 v66 v67 v68 v69 v70 v71 v72 v73 v74 v75 v76 v77 v78 v79 v80 v81 v82 v83 v84 v85 v86 v87 v88 v89 v90 v91 v92 v93 v94 v95 v96 v97 v98 v99 v100 v101 v102 v103 v104 v105 v106:Value} (wr:World) (Q:Exit→Act→World→Prop) (hbs:Below w0.heap.size w0 wr.drew) (hlR:bR<w0.heap.size) (hR1:w0.cell? ⟨bR,1,none⟩=some (.int .i64 ra)) (hR2:w0.cell? ⟨bR,2,none⟩=some (.int .i64 rb)) (hR3:w0.cell? ⟨bR,3,none⟩=some (.int .i64 rc)) (hpc3:pc<3) (PA:Hid (∀ W:World,Calls Tryd.prog 13 #[.int .i64 ra, .int .i64 3] W fun e w'=>e= .returned (.int .i64 (pa:Nat))∧W=w')) (PB:Hid (∀ W:World,Calls Tryd.prog 13 #[.int .i64 rb, .int .i64 6] W fun e w'=>e= .returned (.int .i64 (pb:Nat))∧W=w')) (PC:Hid (∀ W:World,Calls Tryd.prog 13 #[.int .i64 rc, .int .i64 3] W fun e w'=>e= .returned (.int .i64 (pc:Nat))∧W=w')) (hnm:∀ W:World,(W.alloc (.cells #[.string ⟨#[102]⟩, .string ⟨#[103]⟩, .string ⟨#[100,101,118]⟩] 9)).cell? ⟨W.heap.size,pc,none⟩=some (.string nm))
  (hQ:∀ (listed:Array Bool) (W:World) (y8 y25 y26 y27 y28 y29 y30 y31 y32 y33 y34 y35 y36 y37:Value),(∀ i,i<15→listed.getD i true=true)→AcJ w0 bR pa pb pc ra rb rc nm (listed.getD 0 true) (listed.getD 1 true) (listed.getD 2 true) (listed.getD 3 true) (listed.getD 4 true) (listed.getD 5 true) (listed.getD 6 true) (listed.getD 7 true) (listed.getD 8 true) (listed.getD 9 true) (listed.getD 10 true) (listed.getD 11 true) (listed.getD 12 true) (listed.getD 13 true) (listed.getD 14 true) W y8 y25 y26 y27 y28 y29 y30 y31 y32 y33 y34 y35 y36 y37→Q .normal ⟨#[v0,v1,v2,v3,v4,v5,v6, .pointer (some ⟨bR,0,none⟩),y8,v9,v10,v11,v12,v13,v14,v15,v16,v17,v18,v19,v20,v21,v22,v23,v24,y25,y26,y27,y28,y29,y30,y31,y32,y33,y34,y35,y36,y37,v38,v39,v40,v41,v42,v43,v44,v45,v46,v47,v48,v49,v50,v51,v52,v53,v54,v55,v56,v57,v58,v59,v60,v61,v62,v63,v64,v65,v66,v67,v68,v69,v70,v71,v72,v73,v74,v75,v76,v77,v78,v79,v80,v81,v82,v83,v84,v85,v86,v87,v88,v89,v90,v91,v92,v93,v94,v95,v96,v97,v98,v99,v100,v101,v102,v103,v104,v105,v106],[]⟩ W):
  Code.wp Tryd.prog Rzv Q ⟨#[v0,v1,v2,v3,v4,v5,v6, .pointer (some ⟨bR,0,none⟩),v8,v9,v10,v11,v12,v13,v14,v15,v16,v17,v18,v19,v20,v21,v22,v23,v24,v25,v26,v27,v28,v29,v30,v31,v32,v33,v34,v35,v36,v37,v38,v39,v40,v41,v42,v43,v44,v45,v46,v47,v48,v49,v50,v51,v52,v53,v54,v55,v56,v57,v58,v59,v60,v61,v62,v63,v64,v65,v66,v67,v68,v69,v70,v71,v72,v73,v74,v75,v76,v77,v78,v79,v80,v81,v82,v83,v84,v85,v86,v87,v88,v89,v90,v91,v92,v93,v94,v95,v96,v97,v98,v99,v100,v101,v102,v103,v104,v105,v106],[]⟩ wr:=by
 have HQ:=Lib.hid hQ;clear hQ;conv=>arg 2;whnf
 refine Bzb (fun listed a W=>∃ y8 y25 y26 y27 y28 y29 y30 y31 y32 y33 y34 y35 y36 y37,AcJ w0 bR pa pb pc ra rb rc nm (listed.getD 0 true) (listed.getD 1 true) (listed.getD 2 true) (listed.getD 3 true) (listed.getD 4 true) (listed.getD 5 true) (listed.getD 6 true) (listed.getD 7 true) (listed.getD 8 true) (listed.getD 9 true) (listed.getD 10 true) (listed.getD 11 true) (listed.getD 12 true) (listed.getD 13 true) (listed.getD 14 true) W y8 y25 y26 y27 y28 y29 y30 y31 y32 y33 y34 y35 y36 y37∧a=⟨#[v0,v1,v2,v3,v4,v5,v6, .pointer (some ⟨bR,0,none⟩),y8,v9,v10,v11,v12,v13,v14,v15,v16,v17,v18,v19,v20,v21,v22,v23,v24,y25,y26,y27,y28,y29,y30,y31,y32,y33,y34,y35,y36,y37,v38,v39,v40,v41,v42,v43,v44,v45,v46,v47,v48,v49,v50,v51,v52,v53,v54,v55,v56,v57,v58,v59,v60,v61,v62,v63,v64,v65,v66,v67,v68,v69,v70,v71,v72,v73,v74,v75,v76,v77,v78,v79,v80,v81,v82,v83,v84,v85,v86,v87,v88,v89,v90,v91,v92,v93,v94,v95,v96,v97,v98,v99,v100,v101,v102,v103,v104,v105,v106],[]⟩) (by kernel_rfl) (Ezy (by kernel_rfl)) ?start ?step ?fin
 case start=>
  refine⟨_,_,_,_,_,_,_,_,_,_,_,_,_,_,?_,rfl⟩;constructor
  all_goals first|exact hbs|exact fun _=>rfl|exact fun h=>absurd h (by decide)
 case step=>
  intro i o ho listed a W hl haf hI K hK;obtain⟨y8,y25,y26,y27,y28,y29,y30,y31,y32,y33,y34,y35,y36,y37,hJ,rfl⟩:=hI;have hK:=fun (W':World) z8 z25 z26 z27 z28 z29 z30 z31 z32 z33 z34 z35 z36 z37 h=>hK _ W' ⟨z8,z25,z26,z27,z28,z29,z30,z31,z32,z33,z34,z35,z36,z37,h,rfl⟩
  simp only[Az2] at hK;have hi:i<15:=(Array.getElem?_eq_some_iff.1 ho).1;have h16:i=0∨i=1∨i=2∨i=3∨i=4∨i=5∨i=6∨i=7∨i=8∨i=9∨i=10∨i=11∨i=12∨i=13∨i=14:=by omega
  rcases h16 with rfl|rfl|rfl|rfl|rfl|rfl|rfl|rfl|rfl|rfl|rfl|rfl|rfl|rfl|rfl
  all_goals
   have ho:=Option.some.inj ho;subst ho
   try simp[Region.binds] at haf
  ·
    go_simp;apply hK;exact { hJ with f0:=fun _=>rfl }
  ·
    obtain rfl:=hJ.f0 (Az3 (by simp[haf]));have e1:=(hJ.w.cell (p:=⟨bR,1,none⟩) hlR).trans hR1;go_simp;apply hK;exact { hJ with f1:=fun _=>rfl }
  ·
    obtain rfl:=hJ.f1 (Az3 (by simp[haf]));go_simp;go_at_call 13;refine(PA.out _).mono ?_;rintro e' w2 ⟨rfl,rfl⟩;apply hK;exact { hJ with f2:=fun _=>rfl }
  ·
    go_simp;apply hK;exact { hJ with f3:=fun _=>rfl }
  ·
    obtain rfl:=hJ.f3 (Az3 (by simp[haf]));have e1:=(hJ.w.cell (p:=⟨bR,2,none⟩) hlR).trans hR2;go_simp;apply hK;exact { hJ with f4:=fun _=>rfl }
  ·
    obtain rfl:=hJ.f4 (Az3 (by simp[haf]));obtain rfl:=hJ.f2 (Az3 (by simp[haf]));go_simp;go_at_call 13;refine(PB.out _).mono ?_;rintro e' w2 ⟨rfl,rfl⟩;apply hK;exact { hJ with f5:=fun _=>rfl }
  ·
    go_simp;apply hK;exact { hJ with f6:=fun _=>⟨_,rfl,fun _=>⟨by simp,hnm W⟩⟩,f10:=fun x=>by obtain⟨s,e1,e2⟩:=hJ.f10 x;exact⟨s,e1,fun h=>⟨Nat.lt_trans (e2 h).1 (by simp),(World.cell?_alloc_lt _ _ _ (e2 h).1).trans (e2 h).2⟩⟩,f13:=fun x=>by obtain⟨s,e1,e2⟩:=hJ.f13 x;exact⟨s,e1,fun h=>⟨(e2 h).1,(e2 h).2.alloc _⟩⟩,f14:=fun x=>by have e:=hJ.q14_6 x;rw[hl] at e;exact absurd e (by decide),q14_6:=fun _=>rfl,w:=hJ.w.alloc hJ.w.size _ }
  ·
    go_simp;apply hK;exact { hJ with f7:=fun _=>rfl }
  ·
    obtain rfl:=hJ.f7 (Az3 (by simp[haf]));have e1:=(hJ.w.cell (p:=⟨bR,3,none⟩) hlR).trans hR3;go_simp;apply hK;exact { hJ with f8:=fun _=>rfl }
  ·
    obtain rfl:=hJ.f8 (Az3 (by simp[haf]));obtain rfl:=hJ.f5 (Az3 (by simp[haf]));go_simp;go_at_call 13;refine(PC.out _).mono ?_;rintro e' w2 ⟨rfl,rfl⟩;apply hK;exact { hJ with f9:=fun _=>rfl }
  ·
    obtain⟨s6,rfl,hE6⟩:=hJ.f6 (Az3 (by simp[haf]));obtain rfl:=hJ.f9 (Az3 (by simp[haf]));have h14:=nlR hJ.q14_10 hl;have hpc:(pc:Int)<3:=by omega
    go_simp;apply hK;exact { hJ with f10:=fun _=>⟨s6,rfl,fun _=>hE6 h14⟩,q14_10:=fun _=>rfl }
  ·
    obtain⟨s10,rfl,hE10⟩:=hJ.f10 (Az3 (by simp[haf]));have h14:=nlR hJ.q14_11 hl;have e1:=(hE10 h14).2;have e2:=(hE10 h14).1;go_simp;apply hK;exact { hJ with f11:=fun _=>rfl,q14_11:=fun _=>rfl }
  ·
    obtain rfl:=hJ.f2 (Az3 (by simp[haf]));obtain rfl:=hJ.f5 (Az3 (by simp[haf]));obtain rfl:=hJ.f11 (Az3 (by simp[haf]));go_simp;apply hK;exact { hJ with f12:=fun _=>rfl }
  ·
    go_simp;apply hK;exact { hJ with f6:=fun x=>by obtain⟨s,e1,e2⟩:=hJ.f6 x;exact⟨s,e1,fun h=>⟨Nat.lt_trans (e2 h).1 (by simp),(World.cell?_alloc_lt _ _ _ (e2 h).1).trans (e2 h).2⟩⟩,f10:=fun x=>by obtain⟨s,e1,e2⟩:=hJ.f10 x;exact⟨s,e1,fun h=>⟨Nat.lt_trans (e2 h).1 (by simp),(World.cell?_alloc_lt _ _ _ (e2 h).1).trans (e2 h).2⟩⟩,f13:=fun _=>⟨_,rfl,fun _=>⟨hJ.w.size,Blk.new _ _ _⟩⟩,f14:=fun x=>by have e:=hJ.q14_13 x;rw[hl] at e;exact absurd e (by decide),q14_13:=fun _=>rfl,w:=hJ.w.alloc hJ.w.size _ }
  ·
    have p13:listed.getD 13 true=true:=Az3 (by simp[haf]);have p11:listed.getD 11 true=true:=Az3 (by simp[haf]);have p10:listed.getD 10 true=true:=Az3 (by simp[haf]);have p6:listed.getD 6 true=true:=Az3 (by simp[haf]);obtain⟨s13,rfl,hE13⟩:=hJ.f13 p13;obtain rfl:=hJ.f12 (Az3 (by simp[haf]));obtain rfl:=hJ.f11 p11;obtain⟨s10,rfl,hE10⟩:=hJ.f10 p10;obtain⟨s6,rfl,hE6⟩:=hJ.f6 p6;have hb:=(hE13 hl).2;obtain⟨e0,e1,e2,e3,e4,e5, -, -, -, -, -,f0,f1,f2,f3,f4,f5, -, -, -, -, -,hlt⟩:=hb.a11;simp at e0 e1 e2 e3 e4 e5;go_simp;apply hK;exact { hJ with f6:=fun x=>by obtain⟨s,e1,e2⟩:=hJ.f6 x;exact⟨s,e1,tfR⟩,f10:=fun x=>by obtain⟨s,e1,e2⟩:=hJ.f10 x;exact⟨s,e1,tfR⟩,f13:=fun x=>by obtain⟨s,e1,e2⟩:=hJ.f13 x;exact⟨s,e1,tfR⟩,f14:=fun _=>⟨_,rfl,(hE13 hl).1,(((((((hE13 hl).2.set_ 0 _).set_ 1 _).set_ 2 _).set_ 3 _).set_ 4 _).set_ 5 _)⟩,q14_10:=fun _=>p10,q14_11:=fun _=>p11,q14_13:=fun _=>p13,q14_6:=fun _=>p6,w:=((((((hJ.w.setCell (hE13 hl).1 _).setCell (hE13 hl).1 _).setCell (hE13 hl).1 _).setCell (hE13 hl).1 _).setCell (hE13 hl).1 _).setCell (hE13 hl).1 _) }
 case fin=>
  intro listed a W hall hI;obtain⟨y8,y25,y26,y27,y28,y29,y30,y31,y32,y33,y34,y35,y36,y37,hJ,rfl⟩:=hI;exact HQ.out listed W _ _ _ _ _ _ _ _ _ _ _ _ _ _ hall hJ
end Go.Proofs.YtdjamdbamkhblacDoor
