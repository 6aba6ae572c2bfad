/- The walk of module.Decode: what it returns, for every string. Condition: the listed tables. -/
import Derived.Test.YtdjamdbamkhblacDoorDecodeS
import Derived.Deep.CutBlock
set_option maxHeartbeats 40000000
set_option maxRecDepth 1000000
namespace Go.Proofs.YtdjamdbamkhblacDoor
open Go.RowKit
set_option linter.unusedVariables false
set_option linter.unusedSimpArgs false
structure D0 (w W:World) (gr:Nat) (st:Option (List UInt8)):Prop where
 below:Below w.heap.size w W
 rdr:RdrAt W gr st
 res:Blk W w.heap.size 90 #[.string ⟨#[]⟩, .slice none 0 0, .slice none 0 0]
 gr0:w.heap.size<gr
theorem D0.next {w W W':World} {gr:Nat} {st st':Option (List UInt8)} (h:D0 w W gr st) (hR:RdrAt W' gr st') (hg:W.grownBy W' (some gr)):D0 w W' gr st':=
 ⟨h.below.grown hg h.below.size (fun q hq=>by injection hq with hq;have:=h.gr0;omega),hR,h.res.grown hg (by have:=h.gr0;simp;omega),h.gr0⟩
theorem D0.alloc {w W:World} {gr:Nat} {st:Option (List UInt8)} (h:D0 w W gr st) (o:Obj):D0 w (W.alloc o) gr st:=
 ⟨h.below.alloc h.below.size o,h.rdr.grown (World.grownBy_alloc W o none) (by simp),h.res.alloc o,h.gr0⟩
theorem D0.start {w W:World} {gr:Nat} {t:List UInt8} (hb:Below w.heap.size w W) (hB:Blk W w.heap.size 90 #[.string ⟨#[]⟩, .slice none 0 0, .slice none 0 0]) (hl:t.length≤4000) (hg:gr=W.heap.size):
  D0 w (W.alloc (.cells #[.string (ba t), .int .i64 0] 191)) gr (some t):=by
 subst hg;exact⟨hb.alloc hb.size _,⟨Blk.new W _ _,hl⟩,hB.alloc _,hB.lt⟩
section
variable {w0 W W':World} {gr gm g2:Nat} {cs:Array Value} {st st' st0 st'':Option (List UInt8)} {e e':TypeId} {size size':Nat} {VC VX:Value} {n n':Nat} {xs xs':List Value} {b11 b13:Bool}
theorem DJ.step (h:DJ w0 W gr gm g2 cs st st0 e e' size size' VC VX n n' xs xs' false b11 b13) (hR:RdrAt W' gr st') (hg:W.grownBy W' (some gr)):DJ w0 W' gr gm g2 cs st' st'' e e' size size' VC VX n n' xs xs' false b11 b13:=by
 have h1:DJ w0 W gr gm g2 cs st st' e e' size size' VC VX n n' xs xs' false b11 b13:=⟨h.below,h.rdr,h.res,h.mdx,h.md,h.oc,h.ox,h.gr0,h.gm0,h.g2m,h.te,h.te',h.tee⟩;have h2:=h1.number hR hg;exact⟨h2.below,h2.rdr,h2.res,h2.mdx,h2.md,h2.oc,h2.ox,h2.gr0,h2.gm0,h2.g2m,h2.te,h2.te',h2.tee⟩
theorem DJ.fin {V:Value} {cs':Array Value} {m:Nat} {ys:List Value} (h:DJ w0 W gr gm g2 cs st st' e e' size size' VC VX n n' xs xs' true true true) (hm:Blk W gm 90 cs') (ho:W.ownsRow w0.heap.size e size V m ys):DJ w0 W gr gm g2 cs' st' st'' e e' size size' V VX m n' ys xs' false false false:=
 ⟨h.below,h.rdr,h.res,⟨_,hm⟩,fun _=>hm,fun _=>ho,h.ox,h.gr0,h.gm0,h.g2m,h.te,h.te',h.tee⟩
theorem DJ.swap (h:DJ w0 W gr gm g2 cs st st' e e' size size' VC VX n n' xs xs' false false false):DJ w0 W gr gm g2 cs st st'' e' e size' size VX VC n' n xs' xs false false false:=
 ⟨h.below,h.rdr,h.res,h.mdx,h.md,fun _=>h.ox,h.oc rfl,h.gr0,h.gm0,h.g2m,h.te',h.te,fun x=>h.tee x.symm⟩
end
structure DJ5 (w0:World) (r:List UInt8) (t0t t1t t2t t3t t4t t5t:Bool) (W:World) (y21 y22 y23 y24 y25 y26:Value):Prop where
 f0:t0t=true→y21= .string (ba r)
 f1:t1t=true→y22= .string (ba (r.drop 4))
 f2:t2t=true→y23= .string (ba (Dzx (r.drop 4)))
 f3:t3t=true→y24= .string (ba r)
 f4:t4t=true→y25= .string (ba (r.take 4))
 f5:t5t=true→y26= .bool (!(Dzx (r.drop 4) == r.take 4))
 w:Below w0.heap.size w0 W
noncomputable def Sz8:Code:=((Tryd.f114.body.bind (Dz9 5)).getD .skip)
theorem Sz7 (w0:World) (r:List UInt8) {v1 v2 v3 v4 v5 v6 v7 v8 v9 v10 v11 v12 v13 v14 v15 v16 v17 v18 v19 v20 v21 v22 v23 v24 v25 v26 v27 v28 v29 v30 v31 v32 v33 v34 v35 v36 v37 v38 v39 v40 v41 v42 v43 v44 v45 v46 v47 v48 v49 v50 v51 v52 v53 v54 v55 v56 v57 v58 v59 v60 v61 v62 v63 v64 v65 v66 v67 v68 v69 v70 v71 v72 v73 v74 v75 v76 v77 v78 v79 v80 v81 v82 v83 v84 v85 v86 v87 v88 v89 v90 v91 v92 v93 v94 v95 v96 v97 v98 v99 v100 v101 v102 v103 v104 v105 v106 v107 v108 v109 v110 v111 v112 v113 v114 v115 v116 v117 v118 v119 v120:Value} (Q:Exit→Act→World→Prop) (h4:4≤r.length) (hr:r.length≤4000)
  (hQ:∀ (listed:Array Bool) (W:World) (y21 y22 y23 y24 y25 y26:Value),(∀ i,i<6→listed.getD i true=true)→DJ5 w0 r (listed.getD 0 true) (listed.getD 1 true) (listed.getD 2 true) (listed.getD 3 true) (listed.getD 4 true) (listed.getD 5 true) W y21 y22 y23 y24 y25 y26→Q .normal ⟨#[.string (ba r),v1,v2,v3,v4,v5,v6,v7,v8,v9,v10,v11,v12,v13,v14,v15,v16,v17,v18,v19,v20,y21,y22,y23,y24,y25,y26,v27,v28,v29,v30,v31,v32,v33,v34,v35,v36,v37,v38,v39,v40,v41,v42,v43,v44,v45,v46,v47,v48,v49,v50,v51,v52,v53,v54,v55,v56,v57,v58,v59,v60,v61,v62,v63,v64,v65,v66,v67,v68,v69,v70,v71,v72,v73,v74,v75,v76,v77,v78,v79,v80,v81,v82,v83,v84,v85,v86,v87,v88,v89,v90,v91,v92,v93,v94,v95,v96,v97,v98,v99,v100,v101,v102,v103,v104,v105,v106,v107,v108,v109,v110,v111,v112,v113,v114,v115,v116,v117,v118,v119,v120],[]⟩ W):
  Code.wp Tryd.prog Sz8 Q ⟨#[.string (ba r),v1,v2,v3,v4,v5,v6,v7,v8,v9,v10,v11,v12,v13,v14,v15,v16,v17,v18,v19,v20,v21,v22,v23,v24,v25,v26,v27,v28,v29,v30,v31,v32,v33,v34,v35,v36,v37,v38,v39,v40,v41,v42,v43,v44,v45,v46,v47,v48,v49,v50,v51,v52,v53,v54,v55,v56,v57,v58,v59,v60,v61,v62,v63,v64,v65,v66,v67,v68,v69,v70,v71,v72,v73,v74,v75,v76,v77,v78,v79,v80,v81,v82,v83,v84,v85,v86,v87,v88,v89,v90,v91,v92,v93,v94,v95,v96,v97,v98,v99,v100,v101,v102,v103,v104,v105,v106,v107,v108,v109,v110,v111,v112,v113,v114,v115,v116,v117,v118,v119,v120],[]⟩ w0:=by
 have HQ:=Lib.hid hQ;clear hQ;conv=>arg 2;whnf
 refine Azj (fun listed a W=>∃ y21 y22 y23 y24 y25 y26,DJ5 w0 r (listed.getD 0 true) (listed.getD 1 true) (listed.getD 2 true) (listed.getD 3 true) (listed.getD 4 true) (listed.getD 5 true) W y21 y22 y23 y24 y25 y26∧a=⟨#[.string (ba r),v1,v2,v3,v4,v5,v6,v7,v8,v9,v10,v11,v12,v13,v14,v15,v16,v17,v18,v19,v20,y21,y22,y23,y24,y25,y26,v27,v28,v29,v30,v31,v32,v33,v34,v35,v36,v37,v38,v39,v40,v41,v42,v43,v44,v45,v46,v47,v48,v49,v50,v51,v52,v53,v54,v55,v56,v57,v58,v59,v60,v61,v62,v63,v64,v65,v66,v67,v68,v69,v70,v71,v72,v73,v74,v75,v76,v77,v78,v79,v80,v81,v82,v83,v84,v85,v86,v87,v88,v89,v90,v91,v92,v93,v94,v95,v96,v97,v98,v99,v100,v101,v102,v103,v104,v105,v106,v107,v108,v109,v110,v111,v112,v113,v114,v115,v116,v117,v118,v119,v120],[]⟩) (by kernel_rfl) (Ez9 (by kernel_rfl)) ?start ?step ?fin
 case start=>
  refine⟨_,_,_,_,_,_,?_,rfl⟩;constructor
  all_goals first|exact Below.drewN' (Below.refl _ _) 1|exact fun _=>rfl|exact fun h=>absurd h (by decide)
 case step=>
  intro i o ho listed a W hl haf hI K hK;obtain⟨y21,y22,y23,y24,y25,y26,hJ,rfl⟩:=hI;have hK:=fun (W':World) z21 z22 z23 z24 z25 z26 h=>hK _ W' ⟨z21,z22,z23,z24,z25,z26,h,rfl⟩
  simp only[Az2] at hK;have hi:i<6:=(Array.getElem?_eq_some_iff.1 ho).1;have h16:i=0∨i=1∨i=2∨i=3∨i=4∨i=5:=by omega
  have e1:=Jz4 r 4;have e2:=Mzg r 4;have e3:=Ezs r;have e4:∀ l:List UInt8,(ba l).toList=l:=fun l=>ByteArray.toList_mk l
  have h4i:(4:Int)≤(r.length:Int):=by omega
  rcases h16 with rfl|rfl|rfl|rfl|rfl|rfl
  all_goals
   have ho:=Option.some.inj ho;subst ho
   try simp[Region.binds] at haf
  ·
    go_simp;apply hK;exact { hJ with f0:=fun _=>rfl }
  ·
    obtain rfl:=hJ.f0 (Az3 (by simp[haf]));go_simp;apply hK;exact { hJ with f1:=fun _=>rfl }
  ·
    obtain rfl:=hJ.f1 (Az3 (by simp[haf]));go_simp;go_at_call 113;refine(Kzg (ba (r.drop 4)) _ (by unfold maxLen;rw[Ezs,List.length_drop];omega)).mono ?_;rintro e w2 ⟨rfl,hb2⟩;apply hK;exact { hJ with f2:=fun _=>rfl,w:=hJ.w.trans (hb2.mono hJ.w.size) }
  ·
    go_simp;apply hK;exact { hJ with f3:=fun _=>rfl }
  ·
    obtain rfl:=hJ.f3 (Az3 (by simp[haf]));go_simp;apply hK;exact { hJ with f4:=fun _=>rfl }
  ·
    obtain rfl:=hJ.f2 (Az3 (by simp[haf]));obtain rfl:=hJ.f4 (Az3 (by simp[haf]));go_simp;apply hK;exact { hJ with f5:=fun _=>rfl }
 case fin=>
  intro listed a W hall hI;obtain⟨y21,y22,y23,y24,y25,y26,hJ,rfl⟩:=hI;exact HQ.out listed W _ _ _ _ _ _ hall hJ
theorem Mz6 (r:List UInt8) (w:World) (hs:r.length≤maxLen) (ht:Tab w):
  Calls Tryd.prog 114 #[.string (ba r)] w (DecPost w (decR (ba r))):=by
 have hsz:=Ezs r;unfold maxLen at hs;have hb0:=(Below.refl w.heap.size w).alloc (Nat.le_refl _) (.cells #[.string ⟨#[]⟩, .slice none 0 0, .slice none 0 0] 90);have hB0:=Blk.new w 90 #[.string ⟨#[]⟩, .slice none 0 0, .slice none 0 0];by_cases h1:4000<r.length
 ·have HD:Hid (decE (ba r).data.toList Az7=(none,1)):=by show _=_;unfold decE;rw[if_pos (by exact h1)]
  have h1':(4000:Int)<(r.length:Int):=by omega
  have HB:=Lib.hid hb0;clear h1 hb0 hB0;go_enter Tryd.func114,Tryd.ntmps114;go_wp2;refine bodyPost_ret (v:= .tuple #[.agg #[.string ⟨#[]⟩, .slice none 0 0, .slice none 0 0], .int .i64 1]) (by simp[results,Tryd.results114,go_sem]) rfl ?_;exact DecPost.no HD.out rfl HB.out
 by_cases h2:r.length<4
 ·have HD:Hid (decE (ba r).data.toList Az7=(none,5)):=by show _=_;unfold decE;rw[if_neg (by exact h1),if_pos (by exact h2)]
  have h1':(r.length:Int)≤4000:=by omega
  have h2':(r.length:Int)<4:=by omega
  have HB:=Lib.hid hb0;clear h1 h2 hb0 hB0;go_enter Tryd.func114,Tryd.ntmps114;go_wp2;refine bodyPost_ret (v:= .tuple #[.agg #[.string ⟨#[]⟩, .slice none 0 0, .slice none 0 0], .int .i64 5]) (by simp[results,Tryd.results114,go_sem]) rfl ?_;exact DecPost.no HD.out rfl HB.out
 have h1':(r.length:Int)≤4000:=by omega
 have h2':(4:Int)≤(r.length:Int):=by omega
 have e3:=Ezs (r.drop 4);have e1:=Jz4 r 4;by_cases h3:Dzx (r.drop 4)=r.take 4
 ·have hb3:(Dzx (r.drop 4) == r.take 4)=true:=by rw[beq_iff_eq];exact h3
  have HDE:Hid (decE (ba r).data.toList Az7=match getM (r.drop 4) with
    | none=>(none,5)
    | some (m,r)=>if r≠ [] then (none,4) else if Az7 m=0 then (some m,0) else (none,Az7 m)):=by
   show decE r Az7=_;unfold decE;rw[if_neg h1,if_neg h2,if_neg (by simpa using h3)];rfl
  have hb4:(!(Dzx (r.drop 4) == r.take 4))=false:=by rw[hb3];rfl
  clear h3 hb3;go_enter Tryd.func114,Tryd.ntmps114;go_upto_region 5 with fail
  refine Sz7 _ r _ (by omega) (by omega) ?_;intro listed W y21 y22 y23 y24 y25 y26 hall hJ;have e26:=hJ.f5 (hall 5 (by decide));rw[hb4] at e26;subst e26;have hbW:=hJ.w;clear hJ;have hBW:=hB0.below hbW (by simp);have hbw:=hb0.trans (hbW.mono hb0.size);clear hbW hB0;go_wp2_with fail;have hd:=D0.start hbw hBW (gr:=W.heap.size) (t:=r.drop 4) (by rw[List.length_drop];omega) rfl;refine(Bzv W.heap.size 1 (some (r.drop 4)) _ (by omega) hd.rdr).mono ?_;rintro e W1 ⟨rfl,hR1,hg1⟩;have hd1:=hd.next hR1 hg1;have HN1:=Lib.hid (Dzv 1 (some (r.drop 4)) (by omega));obtain⟨n1,hn1⟩:∃ n,n=(numS 1 (some (r.drop 4))).1:=⟨_,rfl⟩;obtain⟨st1,hs1⟩:∃ n,n=(numS 1 (some (r.drop 4))).2:=⟨_,rfl⟩;obtain⟨gr,hgr⟩:∃ g,g=W.heap.size:=⟨_,rfl⟩;rw[←hgr, ←hs1] at hd1;rw[←hgr, ←hn1];rw[←hn1] at HN1;have hn9:=HN1.out.2 (by omega);have HS0:=Lib.hid (show n1=(numS 1 (some (r.drop 4))).1∧st1=(numS 1 (some (r.drop 4))).2 from ⟨hn1,hs1⟩);clear hd hR1 hg1 hn1 hs1 hgr HN1 hb4 e1 e3 hBW hbw;go_wp2_with fail;refine(take_any gr n1 st1 W1 hn9 hd1.rdr).mono ?_;rintro e W2 ⟨rfl,hR2,hg2⟩;have hd2:=hd1.next hR2 hg2;obtain⟨nm,hnm⟩:∃ n,n=(Dz5 n1 st1).1:=⟨_,rfl⟩;obtain⟨st2,hs2⟩:∃ n,n=(Dz5 n1 st1).2:=⟨_,rfl⟩;rw[←hs2] at hd2;rw[←hnm];have HS:=Lib.hid (show n1=(numS 1 (some (r.drop 4))).1∧st1=(numS 1 (some (r.drop 4))).2∧Dz5 n1 st1=(nm,st2) from ⟨HS0.out.1,HS0.out.2,by rw[hnm,hs2]⟩);clear hd1 hR2 hg2 hnm hs2 HS0;go_upto_region 9 with fail
  have hgl:=hd2.rdr.lt;have hd3:=hd2.alloc (.cells #[.string (ba nm), .slice none 0 0, .slice none 0 0] 90);have hm3:=Blk.new W2 90 #[.string (ba nm), .slice none 0 0, .slice none 0 0];obtain⟨k1,hk1⟩:∃ n,n=(numS 1 st2).1:=⟨_,rfl⟩;obtain⟨st3,hs3⟩:∃ n,n=(numS 1 st2).2:=⟨_,rfl⟩;have HN:=Dzv 1 st2 (by omega);have NC:=Lib.hid (Bzv gr 1 st2 _ (by omega) hd3.rdr);rw[←hk1, ←hs3] at NC;rw[←hk1] at HN;have hk9:=HN.2 (by omega);have HS3:=Lib.hid (show k1=(numS 1 st2).1∧st3=(numS 1 st2).2 from ⟨hk1,hs3⟩);obtain⟨gm,hgm⟩:∃ g,g=W2.heap.size:=⟨_,rfl⟩;have hgg:gm≠gr:=by omega
  have hgm0:w.heap.size≤gm:=by have:=hd2.below.size;omega
  have hg2m:w.heap.size≠gm:=by have:=hd2.res.lt;omega
  rw[←hgm] at hm3;rw[←hgm];clear HN hk1 hs3 hgm hd2 hgl;go_wp2_with fail;refine NC.out.mono ?_;rintro e W3 ⟨rfl,hR3,hg3⟩;have hd4:=hd3.next hR3 hg3;have hm4:=hm3.grown hg3 (by simpa using hgg);have hj4:DJ w W3 gr gm w.heap.size #[.string (ba nm), .slice none 0 0, .slice none 0 0] st3 st3 65 3 4 1 (.slice none 0 0) (.slice none 0 0) 0 0 (Az1 []) [] false false false:=⟨hd4.below,hd4.rdr,hd4.res,⟨_,hm4⟩,fun _=>hm4,fun _=>World.ownsRow_nil _ _ _ _,World.ownsRow_nil _ _ _ _,Nat.le_of_lt hd4.gr0,hgm0,hg2m,⟨by decide,by decide⟩,⟨by decide,by decide⟩,by decide⟩;clear hd3 hm3 hR3 hg3 hd4 hm4 NC;go_upto_block 0 with fail
  have HJ4:=Lib.hid hj4;clear hj4;go_cut [] (fun wx=>∃ (L:List Ins) (n:Nat) (A1:Option Addr) (c1:Nat) (st4:Option (List UInt8)),n≤255∧DJ w wx gr gm w.heap.size #[.string (ba nm), .slice A1 n c1, .slice none 0 0] st4 st4 65 3 4 1 (.slice A1 n c1) (.slice none 0 0) n 0 (Az1 L) [] false false false∧Hid (goI st3 k1=st4.map fun r=>(L,r)))
  case first=>
   go_wp2;go_loopw [6] (fun i wr=>Cnt k1 i fun k=>∃ (L:List Ins) (A1:Option Addr) (c1:Nat) (st:Option (List UInt8)),DJ w wr gr gm w.heap.size #[.string (ba nm), .slice A1 k c1, .slice none 0 0] st st 65 3 4 1 (.slice A1 k c1) (.slice none 0 0) k 0 (Az1 L) [] false false false∧Hid (goI st3 k1=(goI st (k1 - k)).map fun y=>(L++y.1,y.2))) (fun i _=>k1 - (intOf i).toNat)
   case atStart=>exact⟨0,Nat.zero_le _,rfl,[],none,0,st3,HJ4.out,by show _=_;simp⟩
   case round=>
    obtain⟨k,hk,rfl,L,A1,c1,st,hD,HG⟩:=hrel;cases st with
    | none=>
      obtain⟨s,hB⟩:=hD.rdr;have x1:=hB.cell 1;simp at x1;have HD:=Lib.hid hD;clear hD hB;have HF:Hid (goI st3 k1=(none:Option (List UInt8)).map fun r=>(L,r)):=by show _=_;rw[HG.out];rfl
      by_cases hlt:k<k1
      all_goals
       go_wp2;go_meet;exact⟨L,k,A1,c1,none,by omega,HD.out,HF⟩
    | some r0=>
      obtain⟨hB,hl0⟩:=hD.rdr;have x1:=hB.cell 1;simp at x1;clear hB;by_cases hlt:k<k1
      ·have NC1:=Lib.hid (Bzv gr 1 (some r0) wr (by omega) hD.rdr)
       have HN1:=Dzv 1 (some r0) (by omega);obtain⟨a1,ha1⟩:∃ a,a=(numS 1 (some r0)).1:=⟨_,rfl⟩;obtain⟨sa,hsa⟩:∃ a,a=(numS 1 (some r0)).2:=⟨_,rfl⟩;rw[←ha1, ←hsa] at NC1;rw[←ha1] at HN1;have ha9:=HN1.2 (by omega);have HA:=Lib.hid (show a1=(numS 1 (some r0)).1∧sa=(numS 1 (some r0)).2 from ⟨ha1,hsa⟩);have HD:=Lib.hid hD;clear ha1 hsa HN1 hD;go_wp2_with fail;refine NC1.out.mono ?_;rintro e Wa ⟨rfl,hRa,hga⟩;have hDa:=HD.out.step (st'':=sa) hRa hga;clear HD NC1 hRa hga x1;have NC2:=Lib.hid (Bzv gr 1 sa Wa (by omega) hDa.rdr);have HN1:=Dzv 1 sa (by omega);obtain⟨a2,ha2⟩:∃ a,a=(numS 1 sa).1:=⟨_,rfl⟩;obtain⟨sb,hsb⟩:∃ a,a=(numS 1 sa).2:=⟨_,rfl⟩;rw[←ha2, ←hsb] at NC2;rw[←ha2] at HN1;have hb9:=HN1.2 (by omega);have HB:=Lib.hid (show a2=(numS 1 sa).1∧sb=(numS 1 sa).2 from ⟨ha2,hsb⟩);have HDA:=Lib.hid hDa;clear ha2 hsb HN1 hDa;go_wp2_with fail;refine NC2.out.mono ?_;rintro e Wb ⟨rfl,hRb,hgb⟩;have hDb:=Lib.hid (HDA.out.step (st'':=(numS 2 sb).2) hRb hgb);clear HDA NC2 hRb hgb;go_wp2_with fail;refine Sz5 w gr gm w.heap.size k 0 a1 a2 c1 A1 nm L (.slice none 0 0) [] sb Wb _ hDb.out (by omega) ha9 hb9 ?_;intro listed' Wc y55 y56 y57 y58 y59 y60 y61 y62 y63 y64 y65 y66 y67 hall' hJ;obtain⟨V,hmV,hoV⟩:=hJ.f13 (hall' 13 (by decide));have hw:=hJ.w;rw[hall' 8 (by decide),hall' 11 (by decide),hall' 13 (by decide)] at hw;obtain⟨A2,c2,rfl⟩:=Az5 hoV;have hDc:=Lib.hid (hw.fin (st'':=(numS 2 sb).2) hmV hoV);have hst:stI (some r0)=(numS 2 sb).2:=by unfold stI;rw[←HA.out.2, ←HB.out.2]
       have hxx:insS (some r0)=⟨(a1:Nat),(a2 / 16:Nat),(a2 % 16:Nat),((numS 2 sb).1:Nat)⟩:=by unfold insS;rw[←HA.out.2, ←HB.out.2, ←HA.out.1, ←HB.out.1]
       have HX:Hid (goI st3 k1=(goI (numS 2 sb).2 (k1 - (k+1))).map fun y=>((L++ [⟨(a1:Nat),(a2 / 16:Nat),(a2 % 16:Nat),((numS 2 sb).1:Nat)⟩])++y.1,y.2)):=by
        have g:=Ozv r0 (k1 - k - 1) _ (fun _=>hxx.symm);rw[hst] at g;exact Mzu (f:=goI) HG.out hlt g
       clear hJ hw hmV hoV hst hxx hDb;go_wp2_with fail;go_roundw
       case rel=>exact⟨k+1,by omega,by go_num,_,A2,c2,(numS 2 sb).2,hDc.out,HX⟩
       case measure=>simp[intOf];omega
      ·obtain rfl:k=k1:=by omega
       have HF:Hid (goI st3 k=(some r0).map fun r=>(L,r)):=by show _=_;rw[HG.out,Nat.sub_self,Ozw];simp
       have HD:=Lib.hid hD;clear hD;go_wp2;go_meet;exact⟨L,k,A1,c1,some r0,by omega,HD.out,HF⟩
  case rest=>
   clear HJ4;obtain⟨L,n4,A4,c4,st4,hn4,hD4,HG4⟩:=hcut;obtain⟨j1,hj1⟩:∃ n,n=(numS 1 st4).1:=⟨_,rfl⟩;obtain⟨st5,hs5⟩:∃ n,n=(numS 1 st4).2:=⟨_,rfl⟩;have HN:=Dzv 1 st4 (by omega);have NC:=Lib.hid (Bzv gr 1 st4 wc (by omega) hD4.rdr);rw[←hj1, ←hs5] at NC;rw[←hj1] at HN;have hj9:=HN.2 (by omega);have HS5:=Lib.hid (show j1=(numS 1 st4).1∧st5=(numS 1 st4).2 from ⟨hj1,hs5⟩);have HD4:=Lib.hid hD4;clear HN hj1 hs5 hD4;go_wp2_with fail;refine NC.out.mono ?_;rintro e W4 ⟨rfl,hR4,hg4⟩;have HJ5:=Lib.hid ((HD4.out.step (st'':=st5) hR4 hg4).swap (st'':=st5));clear NC hR4 hg4 HD4;go_upto_block 2 with fail
   go_cut [] (fun wx=>∃ (D:List Int) (n:Nat) (A1:Option Addr) (c1:Nat) (st6:Option (List UInt8)),n≤255∧DJ w wx gr gm w.heap.size #[.string (ba nm), .slice A4 n4 c4, .slice A1 n c1] st6 st6 3 65 1 4 (.slice A1 n c1) (.slice A4 n4 c4) n n4 (intCells D) (Az1 L) false false false∧Hid (goW st5 j1=st6.map fun r=>(D,r)))
   case first=>
    go_wp2;go_loopw [10] (fun i wr=>Cnt j1 i fun k=>∃ (D:List Int) (A1:Option Addr) (c1:Nat) (st:Option (List UInt8)),DJ w wr gr gm w.heap.size #[.string (ba nm), .slice A4 n4 c4, .slice A1 k c1] st st 3 65 1 4 (.slice A1 k c1) (.slice A4 n4 c4) k n4 (intCells D) (Az1 L) false false false∧Hid (goW st5 j1=(goW st (j1 - k)).map fun y=>(D++y.1,y.2))) (fun i _=>j1 - (intOf i).toNat)
    case atStart=>exact⟨0,Nat.zero_le _,rfl,[],none,0,st5,HJ5.out,by show _=_;simp⟩
    case round=>
     clear HJ5;obtain⟨k,hk,rfl,D,A1,c1,st,hD,HG⟩:=hrel;cases st with
     | none=>
       obtain⟨s,hB⟩:=hD.rdr;have x1:=hB.cell 1;simp at x1;have HD:=Lib.hid hD;clear hD hB;have HF:Hid (goW st5 j1=(none:Option (List UInt8)).map fun r=>(D,r)):=by show _=_;rw[HG.out];rfl
       by_cases hlt:k<j1
       all_goals
        go_wp2;go_meet;exact⟨D,k,A1,c1,none,by omega,HD.out,HF⟩
     | some r0=>
       obtain⟨hB,hl0⟩:=hD.rdr;have x1:=hB.cell 1;simp at x1;clear hB;by_cases hlt:k<j1
       ·have hDb:Hid (DJ w wr gr gm w.heap.size #[.string (ba nm), .slice A4 n4 c4, .slice A1 k c1] (some r0) (numS 2 (some r0)).2 3 65 1 4 (.slice A1 k c1) (.slice A4 n4 c4) k n4 (intCells D) (Az1 L) false false false):=⟨hD.below,hD.rdr,hD.res,hD.mdx,hD.md,hD.oc,hD.ox,hD.gr0,hD.gm0,hD.g2m,hD.te,hD.te',hD.tee⟩
        clear hD;go_wp2_with fail;refine Sz6 w gr gm w.heap.size k n4 c1 A1 nm D (.slice A4 n4 c4) (Az1 L) (some r0) wr _ hDb.out (by omega) ?_;intro listed' Wc y82 y83 y84 y85 y86 y87 y88 hall' hJ;obtain⟨V,hmV,hoV⟩:=hJ.f7 (hall' 7 (by decide));have hw:=hJ.w;rw[hall' 3 (by decide),hall' 5 (by decide),hall' 7 (by decide)] at hw;obtain⟨A2,c2,rfl⟩:=Az5 hoV;have hDc:=Lib.hid (hw.fin (st'':=(numS 2 (some r0)).2) hmV hoV);have HX:Hid (goW st5 j1=(goW (numS 2 (some r0)).2 (j1 - (k+1))).map fun y=>((D++ [((numS 2 (some r0)).1:Int)])++y.1,y.2)):=
         Mzu (f:=goW) HG.out hlt (Ozx r0 (j1 - k - 1) _ (fun _=>rfl))
        clear hJ hw hmV hoV hDb x1;go_wp2_with fail;go_roundw
        case rel=>exact⟨k+1,by omega,by go_num,_,A2,c2,(numS 2 (some r0)).2,hDc.out,HX⟩
        case measure=>simp[intOf];omega
       ·obtain rfl:k=j1:=by omega
        have HF:Hid (goW st5 k=(some r0).map fun r=>(D,r)):=by show _=_;rw[HG.out,Nat.sub_self,Ozy];simp
        have HD:=Lib.hid hD;clear hD;go_wp2;go_meet;exact⟨D,k,A1,c1,some r0,by omega,HD.out,HF⟩
   case rest=>
    clear HJ5;obtain⟨D,n6,A6,c6,st6,hn6,hD6,HG6⟩:=hcut;have HM:Hid (getM (r.drop 4)=st6.map fun r=>(⟨ba nm,L,D⟩,r)):=by
     refine Kzy (nm:=nm) (st2:=st2) (st4:=st4) ?_ ?_ ?_
     ·rw[←HS.out.1, ←HS.out.2.1];exact HS.out.2.2
     ·rw[←HS3.out.1, ←HS3.out.2];exact HG4.out
     ·rw[←HS5.out.1, ←HS5.out.2];exact HG6.out
    have hnl:nm.length≤255:=by have:=Gzc n1 st1;rw[HS.out.2.2] at this;simp only at this;omega
    clear HS HS3 HS5 HG4 HG6;cases st6 with
    | none=>
      have HD:Hid (decE (ba r).data.toList Az7=(none,5)):=by show _=_;rw[HDE.out,HM.out];rfl
      clear HDE HM;obtain⟨s,hB⟩:=hD6.rdr;have x1:=hB.cell 1;simp at x1;have hrg:gr≠w.heap.size:=hB.ne_ hD6.res (by decide);have HB:=Lib.hid hB;have HX:=Lib.hid hD6;clear hB hD6;obtain⟨z0,z1,z2,g0,g1, -⟩:=HX.out.res.a3;have g2':=HX.out.res.frozen 2;simp at z0 z1 z2;have hS:=Lib.hid (((HX.out.below.setCell (p:=⟨w.heap.size,0,none⟩) (Nat.le_refl _) (.string ⟨#[]⟩)).setCell (p:=⟨w.heap.size,1,none⟩) (Nat.le_refl _) (.slice none 0 0)).setCell (p:=⟨w.heap.size,2,none⟩) (Nat.le_refl _) (.slice none 0 0));have hT:=Lib.hid (((HX.out.res.set_ 0 (.string ⟨#[]⟩)).set_ 1 (.slice none 0 0)).set_ 2 (.slice none 0 0));go_upto_region 21 with fail
      go_region_with (fail)
      all_goals (go_wp2_with fail)
      all_goals (refine bodyPost_ret (v:= .tuple #[.agg #[.string ⟨#[]⟩, .slice none 0 0, .slice none 0 0], .int .i64 5]) ?_ rfl (DecPost.no HD.out rfl ?_))
      all_goals (first|exact Below.drewN' hS.out 1|exact hS.out|(simp[results,Tryd.results114,go_sem,z0,z1,z2]))
    | some r6=>
      cases r6 with
      | nil=>
        obtain⟨hB,_⟩:=hD6.rdr;obtain⟨x0,x1, -⟩:=hB.a2;simp at x0 x1;have e4:(ba []).toList=[]:=ByteArray.toList_mk [];have hlL:L.length=n4:=by have:=hD6.ox.1;rw[Cz9] at this;omega
        have hlD:D.length=n6:=by have:=(hD6.oc rfl).1;simp[intCells] at this;omega
        subst hlL hlD;have hmd:=hD6.md rfl;obtain⟨m0,m1,m2, -⟩:=hmd.a3;simp at m0 m1 m2;have hm:=Lib.hid (Dz6 ⟨ba nm,L,D⟩ A4 A6 c4 c6 wc (by show nm.length≤maxLen;unfold maxLen;omega) (RdI.of (Rd.of_own hD6.ox)) (RdN.of (Rd.of_own (hD6.oc rfl))) (ht.below hD6.below) (by show L.length≤maxLen;unfold maxLen;omega) (by show D.length≤maxLen;unfold maxLen;omega));have HX:=Lib.hid hD6;have HMD:=Lib.hid hmd;clear hB hD6 hmd;obtain⟨mc,hmc⟩:∃ x,x=Az7 ⟨ba nm,L,D⟩:=⟨_,rfl⟩;rw[←hmc] at hm;have HMC:=Lib.hid hmc;clear hmc;go_wp2_with fail;refine hm.out.mono ?_;rintro e w1 ⟨rfl,hb1⟩;have hres:=HX.out.res.below hb1 HX.out.res.lt;have hbw:=HX.out.below.trans (hb1.mono HX.out.below.size);obtain⟨z0,z1,z2,g0,g1, -⟩:=hres.a3;have g2':=hres.frozen 2;have hmd1:=HMD.out.below hb1 HMD.out.lt;obtain⟨y0,y1,y2, -⟩:=hmd1.a3;simp at z0 z1 z2 y0 y1 y2;have HBW:=Lib.hid hbw;have HR:=Lib.hid hres;have HO4:=Lib.hid (own_below HX.out.ox hb1);have HO6:=Lib.hid (own_below (HX.out.oc rfl) hb1);clear hb1 hres hbw hmd1 m0 m1 m2 x0 x1;by_cases hc0:mc=0
        ·have HD:Hid (decE (ba r).data.toList Az7=(some ⟨ba nm,L,D⟩,0)):=by show _=_;rw[HDE.out,HM.out];simp only[Option.map_some];rw[if_neg (by simp),if_pos (by rw[←HMC.out];exact hc0)]
         subst hc0;go_wp2_with fail;have T1:=Tch.of_set (p:=⟨w.heap.size,0,none⟩) HR.out (.string (ba nm));have R1:=HR.out.set_ 0 (.string (ba nm));have T2:=Tch.of_set (p:=⟨w.heap.size,1,none⟩) R1 (.slice A4 L.length c4);have R2:=R1.set_ 1 (.slice A4 L.length c4);have T3:=Tch.of_set (p:=⟨w.heap.size,2,none⟩) R2 (.slice A6 D.length c6);have hf:=((HBW.out.setCell (p:=⟨w.heap.size,0,none⟩) (Nat.le_refl _) (.string (ba nm))).setCell (p:=⟨w.heap.size,1,none⟩) (Nat.le_refl _) (.slice A4 L.length c4)).setCell (p:=⟨w.heap.size,2,none⟩) (Nat.le_refl _) (.slice A6 D.length c6);have o4:=Az6 (Az6 (Az6 HO4.out T1 (by decide)) T2 (by decide)) T3 (by decide);have o6:=Az6 (Az6 (Az6 HO6.out T1 (by decide)) T2 (by decide)) T3 (by decide);refine bodyPost_ret (v:= .tuple #[.agg #[.string (ba nm), .slice A4 L.length c4, .slice A6 D.length c6], .int .i64 0]) ?_ rfl (DecPost.yes HD.out rfl o4 o6 hf);simp[results,Tryd.results114,go_sem,z0,z1,z2]
        ·have hcn:(mc != 0)=true:=by rw[bne_iff_ne];exact hc0
         have HD:Hid (decE (ba r).data.toList Az7=(none,mc)):=by show _=_;rw[HDE.out,HM.out];simp only[Option.map_some];rw[if_neg (by simp),if_neg (by rw[←HMC.out];exact hc0),HMC.out]
         clear hc0;go_wp2_with fail;have hf:=((HBW.out.setCell (p:=⟨w.heap.size,0,none⟩) (Nat.le_refl _) (.string ⟨#[]⟩)).setCell (p:=⟨w.heap.size,1,none⟩) (Nat.le_refl _) (.slice none 0 0)).setCell (p:=⟨w.heap.size,2,none⟩) (Nat.le_refl _) (.slice none 0 0);refine bodyPost_ret (v:= .tuple #[.agg #[.string ⟨#[]⟩, .slice none 0 0, .slice none 0 0], .int .i64 mc]) ?_ rfl (DecPost.no HD.out rfl hf);simp[results,Tryd.results114,go_sem,z0,z1,z2]
      | cons z r7=>
        have HD:Hid (decE (ba r).data.toList Az7=(none,4)):=by show _=_;rw[HDE.out,HM.out];rfl
        clear HDE HM;obtain⟨hB,_⟩:=hD6.rdr;obtain⟨x0,x1, -,f1, -⟩:=hB.a2;simp at x0 x1;have e4:(ba (z::r7)).toList=z::r7:=ByteArray.toList_mk _;have hrg:gr≠w.heap.size:=hB.ne_ hD6.res (by decide);have hB4:=Lib.hid (hB.set_ 1 (.int .i64 4));have hb4:=Lib.hid (hD6.below.setCell (p:=⟨gr,1,none⟩) hD6.gr0 (.int .i64 4));have hr4:=Lib.hid (hD6.res.far (p:=⟨gr,1,none⟩) hrg.symm (.int .i64 4));clear hB hD6;obtain⟨z0,z1,z2,g0,g1, -⟩:=hr4.out.a3;have g2':=hr4.out.frozen 2;simp at z0 z1 z2;have hS:=Lib.hid (((hb4.out.setCell (p:=⟨w.heap.size,0,none⟩) (Nat.le_refl _) (.string ⟨#[]⟩)).setCell (p:=⟨w.heap.size,1,none⟩) (Nat.le_refl _) (.slice none 0 0)).setCell (p:=⟨w.heap.size,2,none⟩) (Nat.le_refl _) (.slice none 0 0));have hT:=Lib.hid (((hr4.out.set_ 0 (.string ⟨#[]⟩)).set_ 1 (.slice none 0 0)).set_ 2 (.slice none 0 0));go_upto_region 21 with fail
        go_region_with (fail)
        all_goals (go_wp2_with fail)
        all_goals (refine bodyPost_ret (v:= .tuple #[.agg #[.string ⟨#[]⟩, .slice none 0 0, .slice none 0 0], .int .i64 4]) ?_ rfl (DecPost.no HD.out rfl ?_))
        all_goals (first|exact Below.drewN' hS.out 1|exact hS.out|(simp[results,Tryd.results114,go_sem,z0,z1,z2]))
 ·have hb3:(Dzx (r.drop 4) == r.take 4)=false:=by rw[beq_eq_false_iff_ne];exact h3
  have HD:Hid (decE (ba r).data.toList Az7=(none,11)):=by show decE r Az7=_;unfold decE;rw[if_neg h1,if_neg h2,if_pos h3]
  have hb4:(!(Dzx (r.drop 4) == r.take 4))=true:=by rw[hb3];rfl
  clear h3 hb3;go_enter Tryd.func114,Tryd.ntmps114;go_upto_region 5 with fail
  refine Sz7 _ r _ (by omega) (by omega) ?_;intro listed W y21 y22 y23 y24 y25 y26 hall hJ;have e26:=hJ.f5 (hall 5 (by decide));rw[hb4] at e26;subst e26;have hbW:=hJ.w;clear hJ;have hBW:=hB0.below hbW (by simp);have HB:=Lib.hid (hb0.trans (hbW.mono hb0.size));obtain⟨x0,x1,x2,f0,f1,f2, -⟩:=hBW.a3;simp at x0 x1 x2;clear hbW hB0;go_wp2;refine bodyPost_ret (v:= .tuple #[.agg #[.string ⟨#[]⟩, .slice none 0 0, .slice none 0 0], .int .i64 11]) (by simp[results,Tryd.results114,go_sem,x0,x1,x2]) rfl ?_;exact DecPost.no HD.out rfl ((((HB.out.setCell (p:=⟨w.heap.size,0,none⟩) (Nat.le_refl _) _).setCell (p:=⟨w.heap.size,1,none⟩) (Nat.le_refl _) _).setCell (p:=⟨w.heap.size,2,none⟩) (Nat.le_refl _) _))
end Go.Proofs.YtdjamdbamkhblacDoor
