/- The walk of the reference's ModuleOf: what it returns, for every string. No condition. -/
import Derived.Test.YtdjamdbamkhblacGreatDoorG28
import Derived.Test.YtdjamdbamkhblacGreatDoorDecodeS
import Derived.Deep.CutBlock
namespace Go.Proofs.YtdjamdbamkhblacGreatDoor
open Go.RowKit
set_option linter.unusedVariables false
set_option linter.unusedSimpArgs false
attribute [local go_sem] After.cell
theorem Lzd (st:Option (List UInt8)):(numS 1 (numS 1 st).2).2=(numS 2 st).2∧((numS 1 (numS 1 st).2).2≠none→256*(numS 1 st).1+(numS 1 (numS 1 st).2).1=(numS 2 st).1):=by
 match st with
 | none=>exact⟨rfl,fun h=>absurd rfl h⟩
 | some []=>exact⟨rfl,fun h=>absurd rfl h⟩
 | some [c]=>exact⟨by rw[Bza,Dzp,Nzp],fun h=>absurd (by rw[Bza,Dzp]) h⟩
 | some (c::d::r)=>exact⟨by rw[Bza,Bza,Czl],fun _=>by rw[Bza,Bza,Czl]⟩
theorem Gz9 (w:World) (o:Obj):Below w.heap.size w (w.alloc o):=(Below.refl _ _).alloc (Nat.le_refl _) o
set_option maxRecDepth 100000 in
set_option maxHeartbeats 40000000 in
theorem Jzk (r:List UInt8) (w:World) (hs:r.length≤maxLen):
  Calls Tryz.prog 23 #[.string (ba r)] w (DecPost w (decR (ba r))):=by
 have hsz:=Dz8 r;unfold maxLen at hs;have hb0:=(Below.refl w.heap.size w).alloc (Nat.le_refl _) (.cells #[.string ⟨#[]⟩, .slice none 0 0, .slice none 0 0] 47);have hB0:=Blk.new w 47 #[.string ⟨#[]⟩, .slice none 0 0, .slice none 0 0];have hst:=Lib.hid (fun (W:World) (hW:Below w.heap.size w W)=>((hW.setCell (p:=⟨w.heap.size,0,none⟩) (Nat.le_refl _) (.string ⟨#[]⟩)).setCell (p:=⟨w.heap.size,1,none⟩) (Nat.le_refl _) (.slice none 0 0)).setCell (p:=⟨w.heap.size,2,none⟩) (Nat.le_refl _) (.slice none 0 0));by_cases h1:4000<r.length
 ·have HD:Hid (decE (ba r).data.toList Az7=(none,1)):=by show _=_;unfold decE;rw[if_pos (by exact h1)]
  have h1':(4000:Int)<(r.length:Int):=by omega
  have HB:=Lib.hid hb0;clear h1 hb0 hB0;go_enter Tryz.func23,Tryz.ntmps23;go_wp2;refine bodyPost_ret (v:= .tuple #[.agg #[.string ⟨#[]⟩, .slice none 0 0, .slice none 0 0], .int .i64 1]) (by simp[results,Tryz.results23,go_sem]) rfl ?_;exact DecPost.no HD.out rfl HB.out
 by_cases h2:r.length<4
 ·have HD:Hid (decE (ba r).data.toList Az7=(none,5)):=by show _=_;unfold decE;rw[if_neg (by exact h1),if_pos (by exact h2)]
  have h1':(r.length:Int)≤4000:=by omega
  have h2':(r.length:Int)<4:=by omega
  have HB:=Lib.hid hb0;clear h1 h2 hb0 hB0;go_enter Tryz.func23,Tryz.ntmps23;go_wp2;refine bodyPost_ret (v:= .tuple #[.agg #[.string ⟨#[]⟩, .slice none 0 0, .slice none 0 0], .int .i64 5]) (by simp[results,Tryz.results23,go_sem]) rfl ?_;exact DecPost.no HD.out rfl HB.out
 have h1':(r.length:Int)≤4000:=by omega
 have h2':(4:Int)≤(r.length:Int):=by omega
 have e3:=Dz8 (r.drop 4);have e1:=Hzj r 4;have e2:=Jzp r 4;have e4:∀ l:List UInt8,(ba l).toList=l:=fun l=>ByteArray.toList_mk l
 have hT:Hid (∀ X:After ((w.alloc (.cells #[.string ⟨#[]⟩, .slice none 0 0, .slice none 0 0] 47)).alloc (.cells #[.string (ba (r.drop 4))] 9)),Calls Tryz.prog 63 #[.string (ba (r.drop 4))] X.w' fun e w'=>e= .returned (.string (ba (Dzn (r.drop 4))))∧Below X.w'.heap.size X.w' w'):=
  fun X=>Lzr (ba (r.drop 4)) X.w' (by rw[e3,List.length_drop];unfold maxLen;omega)
 have hb1:=hb0.alloc hb0.size (.cells #[.string (ba (r.drop 4))] 9);have hB1:=hB0.alloc (.cells #[.string (ba (r.drop 4))] 9);have hT1:Blk ((w.alloc (.cells #[.string ⟨#[]⟩, .slice none 0 0, .slice none 0 0] 47)).alloc (.cells #[.string (ba (r.drop 4))] 9)) (w.heap.size+1) 9 #[.string (ba (r.drop 4))]:=Blk.new' (by simp);have HB1:=Lib.hid hb1;have HS1:=Lib.hid hB1;have HT1:=Lib.hid hT1;have hzt:w.heap.size+1<((w.alloc (.cells #[.string ⟨#[]⟩, .slice none 0 0, .slice none 0 0] 47)).alloc (.cells #[.string (ba (r.drop 4))] 9)).heap.size:=hT1.lt;have c0:=hT1.cell 0;simp only[List.getElem?_toArray,List.getElem?_cons_zero] at c0;clear hb0 hB0 hb1 hB1 hT1;have HDE:Dzn (r.drop 4)=r.take 4→Hid (decE (ba r).data.toList Az7=match getM (r.drop 4) with
    | none=>(none,5)
    | some (m,r)=>if r≠ [] then (none,4) else if Az7 m=0 then (some m,0) else (none,Az7 m)):=fun h3=>by
  show decE r Az7=_;unfold decE;rw[if_neg h1,if_neg h2,if_neg (by simpa using h3)];rfl
 have HDN:Dzn (r.drop 4)≠r.take 4→Hid (decE (ba r).data.toList Az7=(none,11)):=fun h3=>by show decE r Az7=_;unfold decE;rw[if_neg h1,if_neg h2,if_pos h3]
 by_cases h3:Dzn (r.drop 4)=r.take 4
 ·have hb3:(Dzn (r.drop 4) == r.take 4)=true:=by rw[beq_iff_eq];exact h3
  have HD:=HDE h3;clear HDE HDN h3;go_enter Tryz.func23,Tryz.ntmps23;go_upto_region 6 with fail
  refine Azb (by kernel_rfl) (by kernel_rfl) ?_
  repeat (go_big_quiet_step ((rename_i X;exact Calls.calm (hT.out X))))
  refine wpQuiet_nil ?_;rintro W1 ⟨⟨_,hb1⟩,rfl⟩;rename_i W1;have hbW:=HB1.out.trans (hb1.mono HB1.out.size);have hTW:=HT1.out.below hb1 HT1.out.lt;have hRW:=HS1.out.below hb1 HS1.out.lt;have hm:=MO.start hbW hTW hRW (by rw[List.length_drop];omega) (by omega);clear hb1 hbW hTW hRW c0 hzt hT HB1 HS1 HT1 hb3;obtain⟨t,ht⟩:∃ t,t=r.drop 4:=⟨_,rfl⟩;rw[←ht] at hm HD e3;have htl:=hm.nx.len;go_wp2_with fail;obtain⟨bt,hbt⟩:∃ b,b=w.heap.size+1:=⟨_,rfl⟩;obtain⟨bi,hbi⟩:∃ b,b=W1.heap.size:=⟨_,rfl⟩;obtain⟨bs,hbs⟩:∃ b,b=bi+1:=⟨_,rfl⟩;obtain⟨bm,hbm⟩:∃ b,b=bs+1:=⟨_,rfl⟩;obtain⟨B1,hB1⟩:∃ b,b=bm+1:=⟨_,rfl⟩;rw[←hbt, ←hbi, ←hbs, ←hbm, ←hB1] at hm;rw[←hbt, ←hbi, ←hbs, ←hbm];generalize ((W1.alloc (.cells #[.int .i64 0] 3)).alloc (.cells #[.bool false] 4)).alloc (.cells #[.string ⟨#[]⟩, .slice none 0 0, .slice none 0 0] 47)=W2 at*;refine(next_any bt bi bs t (some t) W2 hm.nx hm.dist).mono ?_;rintro e W3 ⟨rfl,hR3,hg3⟩;have hm3:=hm.next hR3 hg3;obtain⟨n1,hn1⟩:∃ n,n=(numS 1 (some t)).1:=⟨_,rfl⟩;obtain⟨st1,hs1⟩:∃ n,n=(numS 1 (some t)).2:=⟨_,rfl⟩;have HN:=(Bzv 1 (some t) (by omega)).2 (by omega);rw[←hn1] at HN;rw[←hs1] at hm3;rw[←hn1];have HS0:=Lib.hid (show n1=(numS 1 (some t)).1∧st1=(numS 1 (some t)).2 from ⟨hn1,hs1⟩);clear hm hR3 hg3 hn1 hs1 hbt hbi hbs hbm hB1 ht;have hord:=Lib.hid hm3.ord;have hple:=Pzl t st1;have k0:=hm3.nx.tx.cell 0;have k1:=hm3.nx.ix.cell 0;have hsuf:=hm3.nx.suf;have zt:=hm3.nx.tx.lt;have zi:=hm3.nx.ix.lt;simp at k0 k1;obtain⟨p1,hp1⟩:∃ p,p=Czo t st1:=⟨_,rfl⟩;rw[←hp1] at k1 hple;have hts:=Dz8 t;by_cases hbad:t.length<p1+n1
  ·have hbadI:(t.length:Int)<(p1:Int)+(n1:Int):=by omega
   have htk:Czg n1 st1=([],none):=by
    cases st1 with
    | none=>rfl
    | some r1=>
      unfold Czg;simp only;rw[if_neg];have:=(hsuf r1 rfl).1;simp only[Czo] at hp1;omega
   have HDD:Hid (decE (ba r).data.toList Az7=(none,5)):=by
    have hg:getM t=(none:Option (List UInt8)).map fun r=>(⟨ba [],[],[]⟩,r):=Fz2 (nm:=[]) (st2:=none) (st4:=none) (st6:=none) (by rw[←HS0.out.1, ←HS0.out.2];exact htk) rfl rfl
    show _=_;rw[HD.out,hg];rfl
   have hR:=hm3.res;obtain⟨x0,x1,x2,f0,f1,f2, -⟩:=hR.a3;simp at x0 x1 x2;have HM:=Lib.hid hm3.below;clear hm3 hsuf hbad htk hp1 hR;go_wp2;refine bodyPost_ret (v:= .tuple #[.agg #[.string ⟨#[]⟩, .slice none 0 0, .slice none 0 0], .int .i64 5]) (by simp[results,Tryz.results23,go_sem,x0,x1,x2]) rfl ?_;exact DecPost.no HDD.out rfl (hst.out _ HM.out)
  ·have hokI:(p1:Int)+(n1:Int)≤(t.length:Int):=by omega
   have hex:=Fz1 t p1 (p1+n1);rw[show p1+n1 - p1=n1 by omega] at hex;obtain⟨nm,hnm⟩:∃ x,x=(Czg n1 st1).1:=⟨_,rfl⟩;obtain⟨st2,hs2⟩:∃ x,x=(Czg n1 st1).2:=⟨_,rfl⟩;have hnm2:(t.drop p1).take n1=nm:=by
    rw[hnm,hp1];cases st1 with
    | none=>simp[Czo,Czg]
    | some r1=>
      obtain⟨q1,q2⟩:=hsuf r1 rfl;simp only[Czo,Czg];rw[←q2,if_pos];simp only[Czo] at hp1;omega
   rw[hnm2] at hex;have hst2:Czo t st2=p1+n1∧st2.isNone=st1.isNone∧∀ r,st2=some r→r.length≤t.length∧r=t.drop (t.length - r.length):=by
    cases st1 with
    | none=>
      have h0:n1=0:=by simp only[Czo] at hp1;omega
      subst h0;rw[hs2];exact⟨by rw[hp1];rfl,rfl,fun r hr=>by cases hr⟩
    | some r1=>
      obtain⟨q1,q2⟩:=hsuf r1 rfl;simp only[Czo] at hp1;have hle:n1≤r1.length:=by omega
      rw[hs2];simp only[Czg,if_pos hle];refine⟨by simp only[Czo,List.length_drop];omega,rfl,fun r hr=>?_⟩;cases hr
      refine⟨by rw[List.length_drop];omega,?_⟩;conv=>lhs;rw[q2]
      rw[List.drop_drop,List.length_drop]
      congr 1
      omega
   have hm4:=(hm3.name nm).skip (p1+n1) hst2.1 hst2.2.1 hst2.2.2;obtain⟨m0, -,mf, -⟩:=hm3.md.a2;have zf:=hm3.nx.ix.frozen 0;simp at m0;have HS:=Lib.hid (show n1=(numS 1 (some t)).1∧st1=(numS 1 (some t)).2∧Czg n1 st1=(nm,st2) from ⟨HS0.out.1,HS0.out.2,by rw[hnm,hs2]⟩);have hnl:nm.length≤255:=by have:=Ezq n1 st1;rw[←hnm] at this;omega
   rw[Int.natCast_add] at hm4;have HM4:=Lib.hid hm4;have hne:bi≠bm:=by have:=hord.out;omega
   have zm:=hm3.md.lt;clear hm3 hsuf hbad hp1 hst2 hnm hs2 hnm2 HS0 hm4;go_wp2_with fail;generalize (W3.setCell ⟨bm,0,none⟩ (.string (ba nm))).setCell ⟨bi,0,none⟩ (.int .i64 ((p1:Int)+(n1:Int)))=W4 at*;have hm4:=HM4.out;refine(next_any bt bi bs t st2 W4 hm4.nx hm4.dist).mono ?_;rintro e W5 ⟨rfl,hR5,hg5⟩;have hm5:=hm4.next hR5 hg5;obtain⟨q1,hq1⟩:∃ n,n=(numS 1 st2).1:=⟨_,rfl⟩;obtain⟨st3,hs3⟩:∃ n,n=(numS 1 st2).2:=⟨_,rfl⟩;have HN3:=(Bzv 1 st2 (by omega)).2 (by omega);rw[←hq1] at HN3;rw[←hs3] at hm5;rw[←hq1];have HS3:=Lib.hid (show q1=(numS 1 st2).1∧st3=(numS 1 st2).2 from ⟨hq1,hs3⟩);have HM5:=Lib.hid hm5;clear HM4 hm4 hR5 hg5 hq1 hs3 hm5 k0 k1 m0 mf zf zm zt zi hex hokI;go_upto_block 0 with fail
   go_cut [] (fun wx=>∃ (L:List Ins) (A1:Option Addr) (c1:Nat) (st4:Option (List UInt8)),L.length≤255∧MO w wx bt bi bs bm B1 t st4 nm (.slice A1 L.length c1) (.slice none 0 0) L []∧Hid (goI st3 q1=st4.map fun r=>(L,r)))
   case first=>
    go_wp2;go_loopw [10] (fun i wr=>Cnt q1 i fun k=>∃ (L:List Ins) (A1:Option Addr) (c1:Nat) (st:Option (List UInt8)),L.length=k∧MO w wr bt bi bs bm B1 t st nm (.slice A1 L.length c1) (.slice none 0 0) L []∧Hid (goI st3 q1=(goI st (q1 - k)).map fun y=>(L++y.1,y.2))) (fun i _=>q1 - (intOf i).toNat)
    case atStart=>exact⟨0,Nat.zero_le _,rfl,[],none,0,st3,rfl,HM5.out,by show _=_;simp⟩
    case round=>
     clear HM5;obtain⟨k,hk,rfl,L,A1,c1,st,hLk,hM,HG⟩:=hrel;obtain⟨ks, -, -, -,zs⟩:=hM.nx.sx.a2;simp at ks;cases st with
     | none=>
       simp only[Option.isNone_none] at ks;have HF:Hid (goI st3 q1=(none:Option (List UInt8)).map fun r=>(L,r)):=by show _=_;rw[HG.out];rfl
       have HM:=Lib.hid hM;clear hM;by_cases hlt:k<q1
       all_goals
        go_wp2;go_meet;exact⟨L,A1,c1,none,by omega,HM.out,HF⟩
     | some r0=>
       simp only[Option.isNone_some] at ks;by_cases hlt:k<q1
       ·have hLq:L.length<q1:=by omega
        have HLk:=Lib.hid hLk;clear hLk;have hx0:wr.heap.size<(wr.alloc (.cells (c3 0 0 0 0) 104)).heap.size:=(Blk.new wr 104 (c3 0 0 0 0)).lt;have hB1x:B1≤wr.heap.size:=hM.ord.2.2.2.2.2;have hM1:=hM.up (Gz9 wr (.cells (c3 0 0 0 0) 104));have hX1:=Blk.new wr 104 (c3 0 0 0 0);have hoX:(Value.slice A1 L.length c1).ownBlock≠some wr.heap.size:=fun e=>by have:=(hM.oc.lt _ e).2;omega
        unfold c3 at hX1 hM1 hx0;obtain⟨bx,hbx⟩:∃ b,b=wr.heap.size:=⟨_,rfl⟩;clear hM zs;go_wp2_with fail;rw[←hbx] at hX1 hB1x hoX hx0;rw[←hbx];clear hbx;generalize wr.alloc (.cells #[.int .i64 0, .int .i64 0, .int .i64 0, .int .i64 0] 104)=V1 at*;refine(next_any bt bi bs t (some r0) V1 hM1.nx hM1.dist).mono ?_;rintro e V2 ⟨rfl,hR2,hg2⟩;have hM2:=hM1.next hR2 hg2;have hX2:=hX1.nx hg2 (by have:=hM1.ord;omega) (by have:=hM1.ord;omega);obtain⟨a1,ha1⟩:∃ a,a=(numS 1 (some r0)).1:=⟨_,rfl⟩;obtain⟨sa,hsa⟩:∃ a,a=(numS 1 (some r0)).2:=⟨_,rfl⟩;have HNA:=(Bzv 1 (some r0) (by omega)).2 (by omega);rw[←ha1] at HNA;rw[←hsa] at hM2;rw[←ha1];have HA:=Lib.hid (show a1=(numS 1 (some r0)).1∧sa=(numS 1 (some r0)).2 from ⟨ha1,hsa⟩);have hX3:=hX2.set_ 0 (.int .i64 (a1:Int));have hM3:=hM2.far hX2 hB1x hoX 0 (.int .i64 (a1:Int));obtain⟨g0, -,g9, -,g8⟩:=hX2.a2;simp at g0 hX3;clear hM1 hX1 hR2 hg2 ha1 hsa hX2 hM2 ks;go_wp2_with fail;generalize V2.setCell ⟨bx,0,none⟩ (.int .i64 (a1:Int))=V3 at*;refine(next_any bt bi bs t sa V3 hM3.nx hM3.dist).mono ?_;rintro e V4 ⟨rfl,hR4,hg4⟩;have hM4:=hM3.next hR4 hg4;have hX4:=hX3.nx hg4 (by have:=hM3.ord;omega) (by have:=hM3.ord;omega);obtain⟨a2,ha2⟩:∃ a,a=(numS 1 sa).1:=⟨_,rfl⟩;obtain⟨sb,hsb⟩:∃ a,a=(numS 1 sa).2:=⟨_,rfl⟩;have HNB:=(Bzv 1 sa (by omega)).2 (by omega);rw[←ha2] at HNB;rw[←hsb] at hM4;rw[←ha2];have HBB:=Lib.hid (show a2=(numS 1 sa).1∧sb=(numS 1 sa).2 from ⟨ha2,hsb⟩);have HX4:=Lib.hid hX4;have HM4':=Lib.hid hM4;obtain⟨-,g1,g2, -,f1,f2,z1⟩:=hX4.a3;simp at g1 g2;have ha2I:(a2:Int)≤255:=by omega
        clear hM3 hX3 hR4 hg4 ha2 hsb hX4 hM4 g0 g9 g8;go_wp2_with fail;have hM5:=(HM4'.out.far HX4.out hB1x hoX 1 (.int .i64 ((a2:Int) / 16))).far (HX4.out.set_ 1 (.int .i64 ((a2:Int) / 16))) hB1x hoX 2 (.int .i64 ((a2:Int) % 16));have hX5:=(HX4.out.set_ 1 (.int .i64 ((a2:Int) / 16))).set_ 2 (.int .i64 ((a2:Int) % 16));simp at hX5;clear HX4 HM4' g1 g2 f1 f2 z1;generalize (V4.setCell ⟨bx,1,none⟩ (.int .i64 ((a2:Int) / 16))).setCell ⟨bx,2,none⟩ (.int .i64 ((a2:Int) % 16))=V5 at*;refine(next_any bt bi bs t sb V5 hM5.nx hM5.dist).mono ?_;rintro e V6 ⟨rfl,hR6,hg6⟩;have hM6:=hM5.next hR6 hg6;have hX6:=hX5.nx hg6 (by have:=hM5.ord;omega) (by have:=hM5.ord;omega);obtain⟨a3,ha3⟩:∃ a,a=(numS 1 sb).1:=⟨_,rfl⟩;obtain⟨sc,hsc⟩:∃ a,a=(numS 1 sb).2:=⟨_,rfl⟩;have HNC:=(Bzv 1 sb (by omega)).2 (by omega);rw[←ha3] at HNC;rw[←hsc] at hM6;rw[←ha3];have HCC:=Lib.hid (show a3=(numS 1 sb).1∧sc=(numS 1 sb).2 from ⟨ha3,hsc⟩);have HX6:=Lib.hid hX6;have HM6:=Lib.hid hM6;obtain⟨-, -, -,g3, -, -, -,f3,z1⟩:=hX6.a4;simp at g3;have ha3I:(a3:Int)≤255:=by omega
        clear hM5 hX5 hR6 hg6 ha3 hsc hX6 hM6;go_wp2_with fail;have hM7:=HM6.out.far HX6.out hB1x hoX 3 (.int .i64 (256*(a3:Int)));have hX7:=HX6.out.set_ 3 (.int .i64 (256*(a3:Int)));simp at hX7;clear HX6 HM6 g3 f3 z1;generalize V6.setCell ⟨bx,3,none⟩ (.int .i64 (256*(a3:Int)))=V7 at*;have hRX:Hid (RX w V7 bt bi bs bm bx B1 t sc (numS 1 sc).2 nm (.slice A1 L.length c1) (.slice none 0 0) L [] (c3 (a1:Int) ((a2:Int) / 16) ((a2:Int) % 16) (256*(a3:Int))) (c3 (a1:Int) ((a2:Int) / 16) ((a2:Int) % 16) (256*(a3:Int)+((numS 1 sc).1:Nat))) false false):=⟨hM7,hX7,hB1x,hoX⟩;clear hM7 hX7;refine Szq w bt bi bs bm bx B1 a3 (a1:Int) ((a2:Int) / 16) ((a2:Int) % 16) t sc nm (.slice A1 L.length c1) (.slice none 0 0) L [] V7 _ hRX.out HNC ?_;intro listed' V8 y80 y81 y82 y83 y84 y85 hall' hJ;have hw:=hJ.w;rw[hall' 3 (by decide),hall' 6 (by decide)] at hw;have hM8:=hw.mo;have hX8:=hw.x;simp only[if_true,c3] at hM8 hX8;obtain⟨a4,ha4⟩:∃ a,a=(numS 1 sc).1:=⟨_,rfl⟩;obtain⟨sd,hsd⟩:∃ a,a=(numS 1 sc).2:=⟨_,rfl⟩;rw[←ha4] at hX8;rw[←hsd] at hM8;have HDD:=Lib.hid (show a4=(numS 1 sc).1∧sd=(numS 1 sc).2 from ⟨ha4,hsd⟩);clear hJ hw hRX ha4 hsd;obtain⟨x,hx⟩:∃ x:Ins,x=⟨(a1:Int),(a2:Int) / 16,(a2:Int) % 16,256*(a3:Int)+(a4:Nat)⟩:=⟨_,rfl⟩;have hX9:Blk V8 bx 104 #[.int .i64 x.op, .int .i64 x.a, .int .i64 x.b, .int .i64 x.c]:=by rw[hx];exact hX8
        have HXX:=Lib.hid hx;clear hX8 hx;have hL300:L.length≤300:=by omega
        have hU:=Tryz.underlying45;obtain⟨i0,hi0,hz0,hz1,hz2⟩:=info_parts Gzd;obtain⟨-,m1, -, -,zm⟩:=hM8.md.a2;obtain⟨u0,u1,u2,u3⟩:V8.cell? ⟨bx,0,none⟩=some (.int .i64 x.op)∧V8.cell? ⟨bx,1,none⟩=some (.int .i64 x.a)∧V8.cell? ⟨bx,2,none⟩=some (.int .i64 x.b)∧V8.cell? ⟨bx,3,none⟩=some (.int .i64 x.c):=⟨hX9.cell 0,hX9.cell 1,hX9.cell 2,hX9.cell 3⟩;have zx:=hX9.lt;simp at m1;have hM9:=Lib.hid (hM8.up (Gz9 V8 (.cells #[.int .i64 x.op, .int .i64 x.a, .int .i64 x.b, .int .i64 x.c] 104)));have hN9:=Lib.hid (Blk.new V8 104 #[.int .i64 x.op, .int .i64 x.a, .int .i64 x.b, .int .i64 x.c]);clear hM8 hX9;go_wp2_with (at_builtin;(refine Azo _ rfl (.tmp 87) (.tmp 89) _ rfl B1 104 i0 _ 4 32 hU hi0 hz0 hz1 hz2 rfl (by omega) (.slice A1 L.length c1) L.length (Azc L) rfl hM9.out.oc _ (some ⟨V8.heap.size,0,none⟩) 1 1 (Azc [x]) rfl (hN9.out.rd 1 4 (by simp)) (Hzs _) ?len ?byt hM9.out.ord.2.2.2.2.2 ?_);(case len=>(unfold maxLen;omega));(case byt=>omega);intro v1 V9 hv1 hgr1 _;(obtain⟨A2,c2,rfl⟩:=Az1 hv1);(have hmq:=hM9.out.md.tch (Tch.of_grown hM9.out.oc hgr1) (by decide));(have m9:=hmq.cell 1);(have f9:=hmq.frozen 1);(have z9:=hmq.lt);simp at m9);have hfin:=hM9.out.code (V:= .slice A2 (L.length+1) c2) (L':=L++ [x]) (by rw[List.length_append,Ezg];exact hv1) hgr1;have hll:(L++ [x]).length=L.length+1:=by simp
        have HFIN:Hid (MO w (V9.setCell ⟨bm,1,none⟩ (.slice A2 (L.length+1) c2)) bt bi bs bm B1 t sd nm (.slice A2 (L++ [x]).length c2) (.slice none 0 0) (L++ [x]) []):=by rw[hll];exact hfin
        have HX:Hid (goI st3 q1=(goI sd (q1 - (k+1))).map fun y=>((L++ [x])++y.1,y.2)):=by
         have hnn:=Lzd sb;rw[←HCC.out.1, ←HCC.out.2, ←HDD.out.1, ←HDD.out.2] at hnn;have hst:stI (some r0)=sd:=by unfold stI;rw[←HA.out.2, ←HBB.out.2];exact hnn.1.symm
         have g:=Kzq r0 (q1 - k - 1) x (fun hne=>by
          rw[hst] at hne;unfold insS;rw[←HA.out.2, ←HBB.out.2, ←HA.out.1, ←HBB.out.1, ←hnn.2 hne,HXX.out];apply Ins.ext'<;>simp)
         rw[hst] at g;exact Hzp (f:=goI) HG.out hlt g
        clear hfin hv1 hgr1 hM9 hN9;go_wp2_with fail;go_roundw
        case rel=>first|exact⟨k+1,by omega,by go_num,L++ [x],A2,c2,sd,by rw[hll,HLk.out],HFIN.out,HX⟩|((repeat apply Exists.intro);exact⟨⟨k+1,by omega,by go_num,L++ [x],A2,c2,sd,by rw[hll,HLk.out],HFIN.out,HX⟩,rfl⟩)
        case measure=>simp[intOf];omega
       ·obtain rfl:k=q1:=by omega
        have HF:Hid (goI st3 k=(some r0).map fun r=>(L,r)):=by show _=_;rw[HG.out,Nat.sub_self,Kzr];simp
        have HM:=Lib.hid hM;clear hM;go_wp2;go_meet;exact⟨L,A1,c1,some r0,by omega,HM.out,HF⟩
   case rest=>
    clear HM5;obtain⟨L,A4,c4,st4,hL4,hM4,HG4⟩:=hcut;go_wp2_with fail;refine(next_any bt bi bs t st4 wc hM4.nx hM4.dist).mono ?_;rintro e W5 ⟨rfl,hR5,hg5⟩;have hm5:=hM4.next hR5 hg5;obtain⟨j1,hj1⟩:∃ n,n=(numS 1 st4).1:=⟨_,rfl⟩;obtain⟨st5,hs5⟩:∃ n,n=(numS 1 st4).2:=⟨_,rfl⟩;have HN5:=(Bzv 1 st4 (by omega)).2 (by omega);rw[←hj1] at HN5;rw[←hs5] at hm5;rw[←hj1];have HS5:=Lib.hid (show j1=(numS 1 st4).1∧st5=(numS 1 st4).2 from ⟨hj1,hs5⟩);have HM5:=Lib.hid hm5;clear hM4 hR5 hg5 hj1 hs5 hm5;go_upto_block 2 with fail
    go_cut [] (fun wx=>∃ (D:List Int) (A1:Option Addr) (c1:Nat) (st6:Option (List UInt8)),D.length≤255∧MO w wx bt bi bs bm B1 t st6 nm (.slice A4 L.length c4) (.slice A1 D.length c1) L D∧Hid (goW st5 j1=st6.map fun r=>(D,r)))
    case first=>
     go_wp2;go_loopw [13] (fun i wr=>Cnt j1 i fun k=>∃ (D:List Int) (A1:Option Addr) (c1:Nat) (st:Option (List UInt8)),D.length=k∧MO w wr bt bi bs bm B1 t st nm (.slice A4 L.length c4) (.slice A1 D.length c1) L D∧Hid (goW st5 j1=(goW st (j1 - k)).map fun y=>(D++y.1,y.2))) (fun i _=>j1 - (intOf i).toNat)
     case atStart=>exact⟨0,Nat.zero_le _,rfl,[],none,0,st5,rfl,HM5.out,by show _=_;simp⟩
     case round=>
      clear HM5;obtain⟨k,hk,rfl,D,A1,c1,st,hDk,hM,HG⟩:=hrel;obtain⟨ks, -, -, -,zs⟩:=hM.nx.sx.a2;simp at ks;cases st with
      | none=>
        simp only[Option.isNone_none] at ks;have HF:Hid (goW st5 j1=(none:Option (List UInt8)).map fun r=>(D,r)):=by show _=_;rw[HG.out];rfl
        have HM:=Lib.hid hM;clear hM;by_cases hlt:k<j1
        all_goals
         go_wp2;go_meet;exact⟨D,A1,c1,none,by omega,HM.out,HF⟩
      | some r0=>
        simp only[Option.isNone_some] at ks;by_cases hlt:k<j1
        ·have hLq:D.length<j1:=by omega
         have HDk:=Lib.hid hDk;clear hDk zs;go_wp2_with fail;refine(next_any bt bi bs t (some r0) wr hM.nx hM.dist).mono ?_;rintro e V2 ⟨rfl,hR2,hg2⟩;have hM2:=hM.next hR2 hg2;obtain⟨a1,ha1⟩:∃ a,a=(numS 1 (some r0)).1:=⟨_,rfl⟩;obtain⟨sa,hsa⟩:∃ a,a=(numS 1 (some r0)).2:=⟨_,rfl⟩;have HNA:=(Bzv 1 (some r0) (by omega)).2 (by omega);rw[←ha1] at HNA;rw[←hsa] at hM2;rw[←ha1];have HA:=Lib.hid (show a1=(numS 1 (some r0)).1∧sa=(numS 1 (some r0)).2 from ⟨ha1,hsa⟩);have ha1I:(a1:Int)≤255:=by omega
         clear hM hR2 hg2 ha1 hsa ks;go_wp2_with fail;refine(next_any bt bi bs t sa V2 hM2.nx hM2.dist).mono ?_;rintro e V4 ⟨rfl,hR4,hg4⟩;have hM4:=hM2.next hR4 hg4;obtain⟨a2,ha2⟩:∃ a,a=(numS 1 sa).1:=⟨_,rfl⟩;obtain⟨sb,hsb⟩:∃ a,a=(numS 1 sa).2:=⟨_,rfl⟩;have HNB:=(Bzv 1 sa (by omega)).2 (by omega);rw[←ha2] at HNB;rw[←hsb] at hM4;rw[←ha2];have HBB:=Lib.hid (show a2=(numS 1 sa).1∧sb=(numS 1 sa).2 from ⟨ha2,hsb⟩);have ha2I:(a2:Int)≤255:=by omega
         clear hM2 hR4 hg4 ha2 hsb;obtain⟨x,hx⟩:∃ x:Int,x=256*(a1:Int)+(a2:Int):=⟨_,rfl⟩;have HXX:=Lib.hid hx;have hL300:D.length≤300:=by omega
         have hU:=Tryz.underlying25;obtain⟨i0,hi0,hz0,hz1,hz2⟩:=info_parts Izr;obtain⟨-, -,m1, -, -, -,zm⟩:=hM4.md.a3;simp at m1;have hM9:=Lib.hid (hM4.up (Gz9 V4 (.cells #[.int .i64 x] 3)));have hN9:=Lib.hid (Blk.new V4 3 #[.int .i64 x]);rw[hx] at hM9 hN9;clear hM4 hx;go_wp2_with (at_builtin;(refine Azo _ rfl (.tmp 111) (.tmp 113) _ rfl B1 3 i0 _ 1 8 hU hi0 hz0 hz1 hz2 rfl (by omega) (.slice A1 D.length c1) D.length (intCells D) rfl hM9.out.od _ (some ⟨V4.heap.size,0,none⟩) 1 1 (intCells [256*(a1:Int)+(a2:Int)]) rfl (hN9.out.rd 1 1 (by simp)) (Dz3 _) ?len ?byt hM9.out.ord.2.2.2.2.2 ?_);(case len=>(unfold maxLen;omega));(case byt=>omega);intro v1 V9 hv1 hgr1 _;(obtain⟨A2,c2,rfl⟩:=Az1 hv1);(have hmq:Blk V9 bm _ _:=hM9.out.md.grown hgr1 (fun e=>by have:=(hM9.out.od.lt _ e.symm).1;have:=hM9.out.ord;omega));(have m9:=hmq.cell 2);(have f9:=hmq.frozen 2);(have z9:=hmq.lt);simp at m9);have hfin:=hM9.out.data (V:= .slice A2 (D.length+1) c2) (D':=D++ [256*(a1:Int)+(a2:Int)]) (by rw[List.length_append,Ezh];exact hv1) hgr1;have hll:(D++ [256*(a1:Int)+(a2:Int)]).length=D.length+1:=by simp
         have HFIN:Hid (MO w (V9.setCell ⟨bm,2,none⟩ (.slice A2 (D.length+1) c2)) bt bi bs bm B1 t sb nm (.slice A4 L.length c4) (.slice A2 (D++ [256*(a1:Int)+(a2:Int)]).length c2) L (D++ [256*(a1:Int)+(a2:Int)])):=by rw[hll];exact hfin
         have HX:Hid (goW st5 j1=(goW sb (j1 - (k+1))).map fun y=>((D++ [256*(a1:Int)+(a2:Int)])++y.1,y.2)):=by
          have hnn:=Lzd (some r0);rw[←HA.out.1, ←HA.out.2, ←HBB.out.1, ←HBB.out.2] at hnn;have g:=Kzs r0 (j1 - k - 1) (256*(a1:Int)+(a2:Int)) (fun hne=>by rw[←hnn.1] at hne;rw[←hnn.2 hne];simp);rw[←hnn.1] at g;exact Hzp (f:=goW) HG.out hlt g
         clear hfin hv1 hgr1 hM9 hN9;refine⟨⟨k+1,by omega,by go_num,D++ [256*(a1:Int)+(a2:Int)],A2,c2,sb,by rw[hll,HDk.out],HFIN.out,HX⟩,by simp[intOf];omega⟩
        ·obtain rfl:k=j1:=by omega
         have HF:Hid (goW st5 k=(some r0).map fun r=>(D,r)):=by show _=_;rw[HG.out,Nat.sub_self,Kzt];simp
         have HM:=Lib.hid hM;clear hM;go_wp2;go_meet;exact⟨D,A1,c1,some r0,by omega,HM.out,HF⟩
    case rest=>
     clear HM5;obtain⟨D,A6,c6,st6,hD6,hM6,HG6⟩:=hcut;have HM:Hid (getM t=st6.map fun r=>(⟨ba nm,L,D⟩,r)):=by
      refine Fz2 (nm:=nm) (st2:=st2) (st4:=st4) ?_ ?_ ?_
      ·rw[←HS.out.1, ←HS.out.2.1];exact HS.out.2.2
      ·rw[←HS3.out.1, ←HS3.out.2];exact HG4.out
      ·rw[←HS5.out.1, ←HS5.out.2];exact HG6.out
     clear HS HS3 HS5 HG4 HG6;obtain⟨ks, -, -, -,zs⟩:=hM6.nx.sx.a2;obtain⟨ki, -, -, -,zi⟩:=hM6.nx.ix.a2;obtain⟨kt, -, -, -,zt⟩:=hM6.nx.tx.a2;have hsf:=hM6.nx.suf;simp at ks ki kt;have hR:=hM6.res;obtain⟨x0,x1,x2,f0,f1,f2, -⟩:=hR.a3;simp at x0 x1 x2;have HB6:=Lib.hid hM6.below;cases st6 with
     | none=>
       simp only[Option.isNone_none] at ks;have HDD:Hid (decE (ba r).data.toList Az7=(none,5)):=by show _=_;rw[HD.out,HM.out];rfl
       clear hM6 hR HM hsf ki kt;go_wp2;refine bodyPost_ret (v:= .tuple #[.agg #[.string ⟨#[]⟩, .slice none 0 0, .slice none 0 0], .int .i64 5]) (by simp[results,Tryz.results23,go_sem,x0,x1,x2]) rfl ?_;exact DecPost.no HDD.out rfl (hst.out _ HB6.out)
     | some r6=>
       simp only[Option.isNone_some] at ks;cases r6 with
       | cons z r7=>
         have HDD:Hid (decE (ba r).data.toList Az7=(none,4)):=by show _=_;rw[HD.out,HM.out];rfl
         obtain⟨p6,hp6⟩:∃ p,p=Czo t (some (z::r7)):=⟨_,rfl⟩;have hpl:(p6:Int)<(t.length:Int):=by
          have:=(hsf _ rfl).1;rw[hp6];simp only[Czo,List.length_cons] at this ⊢;omega
         rw[←hp6] at ki;clear hM6 hR HM hsf hp6;go_wp2;refine bodyPost_ret (v:= .tuple #[.agg #[.string ⟨#[]⟩, .slice none 0 0, .slice none 0 0], .int .i64 4]) (by simp[results,Tryz.results23,go_sem,x0,x1,x2]) rfl ?_;exact DecPost.no HDD.out rfl (hst.out _ HB6.out)
       | nil=>
         have hp6:Czo t (some [])=t.length:=by simp[Czo]
         rw[hp6] at ki;have hmf:=Lib.hid (Fzh ⟨ba nm,L,D⟩ A4 A6 c4 c6 wc (by show nm.length≤maxLen;unfold maxLen;omega) (RdI.of (Rd.of_own hM6.oc)) (RdN.of (Rd.of_own hM6.od)) (by show L.length≤maxLen;unfold maxLen;omega) (by show D.length≤maxLen;unfold maxLen;omega));obtain⟨mc,hmc⟩:∃ x,x=Az7 ⟨ba nm,L,D⟩:=⟨_,rfl⟩;rw[←hmc] at hmf;obtain⟨m0,m1,m2, -, -, -,zm⟩:=hM6.md.a3;simp at m0 m1 m2;have HMC:=Lib.hid hmc;have HM6:=Lib.hid hM6;clear hmc hM6 hR hsf hp6 x0 x1 x2 f0 f1 f2;go_wp2_with fail;refine hmf.out.mono ?_;rintro e V1 ⟨rfl,hb1⟩;have hM7:=HM6.out.up hb1;have HB7:=Lib.hid hM7.below;obtain⟨x0,x1,x2,f0,f1,f2, -⟩:=hM7.res.a3;obtain⟨y0,y1,y2, -, -, -,zm⟩:=hM7.md.a3;simp at x0 x1 x2 y0 y1 y2;have HM7:=Lib.hid hM7;clear hM7 hb1 m0 m1 m2 ks ki kt HB6 HM6 hmf zs zi zt;by_cases hc0:mc=0
         ·have HDD:Hid (decE (ba r).data.toList Az7=(some ⟨ba nm,L,D⟩,0)):=by show _=_;rw[HD.out,HM.out];simp only[Option.map_some];rw[if_neg (by simp),if_pos (by rw[←HMC.out];exact hc0)]
          subst hc0;go_wp2_with fail;have R0:=HM7.out.res;have T1:=Tch.of_set (p:=⟨w.heap.size,0,none⟩) R0 (.string (ba nm));have R1:=R0.set_ 0 (.string (ba nm));have T2:=Tch.of_set (p:=⟨w.heap.size,1,none⟩) R1 (.slice A4 L.length c4);have R2:=R1.set_ 1 (.slice A4 L.length c4);have T3:=Tch.of_set (p:=⟨w.heap.size,2,none⟩) R2 (.slice A6 D.length c6);have hf:=((HB7.out.setCell (p:=⟨w.heap.size,0,none⟩) (Nat.le_refl _) (.string (ba nm))).setCell (p:=⟨w.heap.size,1,none⟩) (Nat.le_refl _) (.slice A4 L.length c4)).setCell (p:=⟨w.heap.size,2,none⟩) (Nat.le_refl _) (.slice A6 D.length c6);have hBw:w.heap.size≤B1:=by have:=HM7.out.ord;omega
          have o4:=own_base (Az4 (Az4 (Az4 HM7.out.oc T1 (by decide)) T2 (by decide)) T3 (by decide)) hBw;have o6:=own_base (Az4 (Az4 (Az4 HM7.out.od T1 (by decide)) T2 (by decide)) T3 (by decide)) hBw;refine bodyPost_ret (v:= .tuple #[.agg #[.string (ba nm), .slice A4 L.length c4, .slice A6 D.length c6], .int .i64 0]) ?_ rfl (DecPost.yes HDD.out rfl o4 o6 hf);simp[results,Tryz.results23,go_sem,x0,x1,x2]
         ·have hcn:(mc != 0)=true:=by rw[bne_iff_ne];exact hc0
          have HDD:Hid (decE (ba r).data.toList Az7=(none,mc)):=by show _=_;rw[HD.out,HM.out];simp only[Option.map_some];rw[if_neg (by simp),if_neg (by rw[←HMC.out];exact hc0),HMC.out]
          clear hc0;go_wp2_with fail;refine bodyPost_ret (v:= .tuple #[.agg #[.string ⟨#[]⟩, .slice none 0 0, .slice none 0 0], .int .i64 mc]) ?_ rfl (DecPost.no HDD.out rfl (hst.out _ HB7.out));simp[results,Tryz.results23,go_sem,x0,x1,x2]
 ·have hb3:(Dzn (r.drop 4) == r.take 4)=false:=by rw[beq_eq_false_iff_ne];exact h3
  have HD:=HDN h3;clear HDE HDN h3;go_enter Tryz.func23,Tryz.ntmps23;go_upto_region 6 with fail
  refine Azb (by kernel_rfl) (by kernel_rfl) ?_
  repeat (go_big_quiet_step ((rename_i X;exact Calls.calm (hT.out X))))
  refine wpQuiet_nil ?_;rintro _ ⟨⟨W1,hb1⟩,rfl⟩;have hBW:=HS1.out.below hb1 HS1.out.lt;have HB:=Lib.hid (HB1.out.trans (hb1.mono HB1.out.size));obtain⟨x0,x1,x2,f0,f1,f2, -⟩:=hBW.a3;simp at x0 x1 x2;clear hb1;go_wp2;refine bodyPost_ret (v:= .tuple #[.agg #[.string ⟨#[]⟩, .slice none 0 0, .slice none 0 0], .int .i64 11]) (by simp[results,Tryz.results23,go_sem,x0,x1,x2]) rfl ?_;exact DecPost.no HD.out rfl (hst.out _ HB.out)
end Go.Proofs.YtdjamdbamkhblacGreatDoor
