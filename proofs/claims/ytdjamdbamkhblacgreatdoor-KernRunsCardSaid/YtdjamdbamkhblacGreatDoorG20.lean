/- The walk of module.Decode: what it returns, for every string. Condition: the listed tables. The walk of the kernel's install: a module comes in, its region is cleared and laid. Condition: the listed table. The drawn region of the kernel's install that appends the module. No condition. By an AI agent (xinst.py). -/
import Derived.Test.YtdjamdbamkhblacGreatDoorDecodeS
import Derived.Deep.CutBlock
import Derived.Test.YtdjamdbamkhblacGreatDoorG10
import Derived.Laws.CopyOwn
set_option maxHeartbeats 40000000
set_option maxRecDepth 1000000
namespace Go.Proofs.YtdjamdbamkhblacGreatDoor
open Go.RowKit
set_option linter.unusedVariables false
set_option linter.unusedSimpArgs false
structure D0 (w W:World) (gr:Nat) (st:Option (List UInt8)):Prop where
 below:Below w.heap.size w W
 rdr:RdrAt W gr st
 res:Blk W w.heap.size 47 #[.string ⟨#[]⟩, .slice none 0 0, .slice none 0 0]
 gr0:w.heap.size<gr
theorem D0.next {w W W':World} {gr:Nat} {st st':Option (List UInt8)} (h:D0 w W gr st) (hR:RdrAt W' gr st') (hg:W.grownBy W' (some gr)):D0 w W' gr st':=
 ⟨h.below.grown hg h.below.size (fun q hq=>by injection hq with hq;have:=h.gr0;omega),hR,h.res.grown hg (by have:=h.gr0;simp;omega),h.gr0⟩
theorem D0.alloc {w W:World} {gr:Nat} {st:Option (List UInt8)} (h:D0 w W gr st) (o:Obj):D0 w (W.alloc o) gr st:=
 ⟨h.below.alloc h.below.size o,h.rdr.grown (World.grownBy_alloc W o none) (by simp),h.res.alloc o,h.gr0⟩
theorem D0.start {w W:World} {gr:Nat} {t:List UInt8} (hb:Below w.heap.size w W) (hB:Blk W w.heap.size 47 #[.string ⟨#[]⟩, .slice none 0 0, .slice none 0 0]) (hl:t.length≤4000) (hg:gr=W.heap.size):
  D0 w (W.alloc (.cells #[.string (ba t), .int .i64 0] 119)) gr (some t):=by
 subst hg;exact⟨hb.alloc hb.size _,⟨Blk.new W _ _,hl⟩,hB.alloc _,hB.lt⟩
section
variable {w0 W W':World} {gr gm g2:Nat} {cs:Array Value} {st st' st0 st'':Option (List UInt8)} {e e':TypeId} {size size':Nat} {VC VX:Value} {n n':Nat} {xs xs':List Value} {b11 b13:Bool}
theorem DJ.step (h:DJ w0 W gr gm g2 cs st st0 e e' size size' VC VX n n' xs xs' false b11 b13) (hR:RdrAt W' gr st') (hg:W.grownBy W' (some gr)):DJ w0 W' gr gm g2 cs st' st'' e e' size size' VC VX n n' xs xs' false b11 b13:=by
 have h1:DJ w0 W gr gm g2 cs st st' e e' size size' VC VX n n' xs xs' false b11 b13:=⟨h.below,h.rdr,h.res,h.mdx,h.md,h.oc,h.ox,h.gr0,h.gm0,h.g2m,h.te,h.te',h.tee⟩;have h2:=h1.number hR hg;exact⟨h2.below,h2.rdr,h2.res,h2.mdx,h2.md,h2.oc,h2.ox,h2.gr0,h2.gm0,h2.g2m,h2.te,h2.te',h2.tee⟩
theorem DJ.fin {V:Value} {cs':Array Value} {m:Nat} {ys:List Value} (h:DJ w0 W gr gm g2 cs st st' e e' size size' VC VX n n' xs xs' true true true) (hm:Blk W gm 47 cs') (ho:W.ownsRow w0.heap.size e size V m ys):DJ w0 W gr gm g2 cs' st' st'' e e' size size' V VX m n' ys xs' false false false:=
 ⟨h.below,h.rdr,h.res,⟨_,hm⟩,fun _=>hm,fun _=>ho,h.ox,h.gr0,h.gm0,h.g2m,h.te,h.te',h.tee⟩
theorem DJ.swap (h:DJ w0 W gr gm g2 cs st st' e e' size size' VC VX n n' xs xs' false false false):DJ w0 W gr gm g2 cs st st'' e' e size' size VX VC n' n xs' xs false false false:=
 ⟨h.below,h.rdr,h.res,h.mdx,h.md,fun _=>h.ox,h.oc rfl,h.gr0,h.gm0,h.g2m,h.te',h.te,fun x=>h.tee x.symm⟩
end
structure DJ5 (w0:World) (r:List UInt8) (t0t t1t t2t t3t t4t t5t:Bool) (W:World) (y21 y22 y23 y24 y25 y26:Value):Prop where
 f0:t0t=true→y21= .string (ba r)
 f1:t1t=true→y22= .string (ba (r.drop 4))
 f2:t2t=true→y23= .string (ba (Dzn (r.drop 4)))
 f3:t3t=true→y24= .string (ba r)
 f4:t4t=true→y25= .string (ba (r.take 4))
 f5:t5t=true→y26= .bool (!(Dzn (r.drop 4) == r.take 4))
 w:Below w0.heap.size w0 W
noncomputable def Szl:Code:=((Tryz.f47.body.bind (Czf 5)).getD .skip)
theorem Szk (w0:World) (r:List UInt8) {v1 v2 v3 v4 v5 v6 v7 v8 v9 v10 v11 v12 v13 v14 v15 v16 v17 v18 v19 v20 v21 v22 v23 v24 v25 v26 v27 v28 v29 v30 v31 v32 v33 v34 v35 v36 v37 v38 v39 v40 v41 v42 v43 v44 v45 v46 v47 v48 v49 v50 v51 v52 v53 v54 v55 v56 v57 v58 v59 v60 v61 v62 v63 v64 v65 v66 v67 v68 v69 v70 v71 v72 v73 v74 v75 v76 v77 v78 v79 v80 v81 v82 v83 v84 v85 v86 v87 v88 v89 v90 v91 v92 v93 v94 v95 v96 v97 v98 v99 v100 v101 v102 v103 v104 v105 v106 v107 v108 v109 v110 v111 v112 v113 v114 v115 v116 v117 v118 v119 v120:Value} (Q:Exit→Act→World→Prop) (h4:4≤r.length) (hr:r.length≤4000)
  (hQ:∀ (listed:Array Bool) (W:World) (y21 y22 y23 y24 y25 y26:Value),(∀ i,i<6→listed.getD i true=true)→DJ5 w0 r (listed.getD 0 true) (listed.getD 1 true) (listed.getD 2 true) (listed.getD 3 true) (listed.getD 4 true) (listed.getD 5 true) W y21 y22 y23 y24 y25 y26→Q .normal ⟨#[.string (ba r),v1,v2,v3,v4,v5,v6,v7,v8,v9,v10,v11,v12,v13,v14,v15,v16,v17,v18,v19,v20,y21,y22,y23,y24,y25,y26,v27,v28,v29,v30,v31,v32,v33,v34,v35,v36,v37,v38,v39,v40,v41,v42,v43,v44,v45,v46,v47,v48,v49,v50,v51,v52,v53,v54,v55,v56,v57,v58,v59,v60,v61,v62,v63,v64,v65,v66,v67,v68,v69,v70,v71,v72,v73,v74,v75,v76,v77,v78,v79,v80,v81,v82,v83,v84,v85,v86,v87,v88,v89,v90,v91,v92,v93,v94,v95,v96,v97,v98,v99,v100,v101,v102,v103,v104,v105,v106,v107,v108,v109,v110,v111,v112,v113,v114,v115,v116,v117,v118,v119,v120],[]⟩ W):
  Code.wp Tryz.prog Szl Q ⟨#[.string (ba r),v1,v2,v3,v4,v5,v6,v7,v8,v9,v10,v11,v12,v13,v14,v15,v16,v17,v18,v19,v20,v21,v22,v23,v24,v25,v26,v27,v28,v29,v30,v31,v32,v33,v34,v35,v36,v37,v38,v39,v40,v41,v42,v43,v44,v45,v46,v47,v48,v49,v50,v51,v52,v53,v54,v55,v56,v57,v58,v59,v60,v61,v62,v63,v64,v65,v66,v67,v68,v69,v70,v71,v72,v73,v74,v75,v76,v77,v78,v79,v80,v81,v82,v83,v84,v85,v86,v87,v88,v89,v90,v91,v92,v93,v94,v95,v96,v97,v98,v99,v100,v101,v102,v103,v104,v105,v106,v107,v108,v109,v110,v111,v112,v113,v114,v115,v116,v117,v118,v119,v120],[]⟩ w0:=by
 have HQ:=Lib.hid hQ;clear hQ;conv=>arg 2;whnf
 refine Azw (fun listed a W=>∃ y21 y22 y23 y24 y25 y26,DJ5 w0 r (listed.getD 0 true) (listed.getD 1 true) (listed.getD 2 true) (listed.getD 3 true) (listed.getD 4 true) (listed.getD 5 true) W y21 y22 y23 y24 y25 y26∧a=⟨#[.string (ba r),v1,v2,v3,v4,v5,v6,v7,v8,v9,v10,v11,v12,v13,v14,v15,v16,v17,v18,v19,v20,y21,y22,y23,y24,y25,y26,v27,v28,v29,v30,v31,v32,v33,v34,v35,v36,v37,v38,v39,v40,v41,v42,v43,v44,v45,v46,v47,v48,v49,v50,v51,v52,v53,v54,v55,v56,v57,v58,v59,v60,v61,v62,v63,v64,v65,v66,v67,v68,v69,v70,v71,v72,v73,v74,v75,v76,v77,v78,v79,v80,v81,v82,v83,v84,v85,v86,v87,v88,v89,v90,v91,v92,v93,v94,v95,v96,v97,v98,v99,v100,v101,v102,v103,v104,v105,v106,v107,v108,v109,v110,v111,v112,v113,v114,v115,v116,v117,v118,v119,v120],[]⟩) (by kernel_rfl) (Fzs (by kernel_rfl)) ?start ?step ?fin
 case start=>
  refine⟨_,_,_,_,_,_,?_,rfl⟩;constructor
  all_goals first|exact Below.drewN' (Below.refl _ _) 1|exact fun _=>rfl|exact fun h=>absurd h (by decide)
 case step=>
  intro i o ho listed a W hl haf hI K hK;obtain⟨y21,y22,y23,y24,y25,y26,hJ,rfl⟩:=hI;have hK:=fun (W':World) z21 z22 z23 z24 z25 z26 h=>hK _ W' ⟨z21,z22,z23,z24,z25,z26,h,rfl⟩
  simp only[Az2] at hK;have hi:i<6:=(Array.getElem?_eq_some_iff.1 ho).1;have h16:i=0∨i=1∨i=2∨i=3∨i=4∨i=5:=by omega
  have e1:=Hzj r 4;have e2:=Jzp r 4;have e3:=Dz8 r;have e4:∀ l:List UInt8,(ba l).toList=l:=fun l=>ByteArray.toList_mk l
  have h4i:(4:Int)≤(r.length:Int):=by omega
  rcases h16 with rfl|rfl|rfl|rfl|rfl|rfl
  all_goals
   have ho:=Option.some.inj ho;subst ho
   try simp[Region.binds] at haf
  ·
    go_simp;apply hK;exact { hJ with f0:=fun _=>rfl }
  ·
    obtain rfl:=hJ.f0 (Az0 (by simp[haf]));go_simp;apply hK;exact { hJ with f1:=fun _=>rfl }
  ·
    obtain rfl:=hJ.f1 (Az0 (by simp[haf]));go_simp;go_at_call 80;refine(Pzs (ba (r.drop 4)) _ (by unfold maxLen;rw[Dz8,List.length_drop];omega)).mono ?_;rintro e w2 ⟨rfl,hb2⟩;apply hK;exact { hJ with f2:=fun _=>rfl,w:=hJ.w.trans (hb2.mono hJ.w.size) }
  ·
    go_simp;apply hK;exact { hJ with f3:=fun _=>rfl }
  ·
    obtain rfl:=hJ.f3 (Az0 (by simp[haf]));go_simp;apply hK;exact { hJ with f4:=fun _=>rfl }
  ·
    obtain rfl:=hJ.f2 (Az0 (by simp[haf]));obtain rfl:=hJ.f4 (Az0 (by simp[haf]));go_simp;apply hK;exact { hJ with f5:=fun _=>rfl }
 case fin=>
  intro listed a W hall hI;obtain⟨y21,y22,y23,y24,y25,y26,hJ,rfl⟩:=hI;exact HQ.out listed W _ _ _ _ _ _ hall hJ
theorem Mzm (r:List UInt8) (w:World) (hs:r.length≤maxLen) (ht:Tab w):
  Calls Tryz.prog 47 #[.string (ba r)] w (DecPost w (decR (ba r))):=by
 have hsz:=Dz8 r;unfold maxLen at hs;have hb0:=(Below.refl w.heap.size w).alloc (Nat.le_refl _) (.cells #[.string ⟨#[]⟩, .slice none 0 0, .slice none 0 0] 47);have hB0:=Blk.new w 47 #[.string ⟨#[]⟩, .slice none 0 0, .slice none 0 0];by_cases h1:4000<r.length
 ·have HD:Hid (decE (ba r).data.toList Az7=(none,1)):=by show _=_;unfold decE;rw[if_pos (by exact h1)]
  have h1':(4000:Int)<(r.length:Int):=by omega
  have HB:=Lib.hid hb0;clear h1 hb0 hB0;go_enter Tryz.func47,Tryz.ntmps47;go_wp2;refine bodyPost_ret (v:= .tuple #[.agg #[.string ⟨#[]⟩, .slice none 0 0, .slice none 0 0], .int .i64 1]) (by simp[results,Tryz.results47,go_sem]) rfl ?_;exact DecPost.no HD.out rfl HB.out
 by_cases h2:r.length<4
 ·have HD:Hid (decE (ba r).data.toList Az7=(none,5)):=by show _=_;unfold decE;rw[if_neg (by exact h1),if_pos (by exact h2)]
  have h1':(r.length:Int)≤4000:=by omega
  have h2':(r.length:Int)<4:=by omega
  have HB:=Lib.hid hb0;clear h1 h2 hb0 hB0;go_enter Tryz.func47,Tryz.ntmps47;go_wp2;refine bodyPost_ret (v:= .tuple #[.agg #[.string ⟨#[]⟩, .slice none 0 0, .slice none 0 0], .int .i64 5]) (by simp[results,Tryz.results47,go_sem]) rfl ?_;exact DecPost.no HD.out rfl HB.out
 have h1':(r.length:Int)≤4000:=by omega
 have h2':(4:Int)≤(r.length:Int):=by omega
 have e3:=Dz8 (r.drop 4);have e1:=Hzj r 4;by_cases h3:Dzn (r.drop 4)=r.take 4
 ·have hb3:(Dzn (r.drop 4) == r.take 4)=true:=by rw[beq_iff_eq];exact h3
  have HDE:Hid (decE (ba r).data.toList Az7=match getM (r.drop 4) with
    | none=>(none,5)
    | some (m,r)=>if r≠ [] then (none,4) else if Az7 m=0 then (some m,0) else (none,Az7 m)):=by
   show decE r Az7=_;unfold decE;rw[if_neg h1,if_neg h2,if_neg (by simpa using h3)];rfl
  have hb4:(!(Dzn (r.drop 4) == r.take 4))=false:=by rw[hb3];rfl
  clear h3 hb3;go_enter Tryz.func47,Tryz.ntmps47;go_upto_region 5 with fail
  refine Szk _ r _ (by omega) (by omega) ?_;intro listed W y21 y22 y23 y24 y25 y26 hall hJ;have e26:=hJ.f5 (hall 5 (by decide));rw[hb4] at e26;subst e26;have hbW:=hJ.w;clear hJ;have hBW:=hB0.below hbW (by simp);have hbw:=hb0.trans (hbW.mono hb0.size);clear hbW hB0;go_wp2_with fail;have hd:=D0.start hbw hBW (gr:=W.heap.size) (t:=r.drop 4) (by rw[List.length_drop];omega) rfl;refine(Cz9 W.heap.size 1 (some (r.drop 4)) _ (by omega) hd.rdr).mono ?_;rintro e W1 ⟨rfl,hR1,hg1⟩;have hd1:=hd.next hR1 hg1;have HN1:=Lib.hid (Bzv 1 (some (r.drop 4)) (by omega));obtain⟨n1,hn1⟩:∃ n,n=(numS 1 (some (r.drop 4))).1:=⟨_,rfl⟩;obtain⟨st1,hs1⟩:∃ n,n=(numS 1 (some (r.drop 4))).2:=⟨_,rfl⟩;obtain⟨gr,hgr⟩:∃ g,g=W.heap.size:=⟨_,rfl⟩;rw[←hgr, ←hs1] at hd1;rw[←hgr, ←hn1];rw[←hn1] at HN1;have hn9:=HN1.out.2 (by omega);have HS0:=Lib.hid (show n1=(numS 1 (some (r.drop 4))).1∧st1=(numS 1 (some (r.drop 4))).2 from ⟨hn1,hs1⟩);clear hd hR1 hg1 hn1 hs1 hgr HN1 hb4 e1 e3 hBW hbw;go_wp2_with fail;refine(take_any gr n1 st1 W1 hn9 hd1.rdr).mono ?_;rintro e W2 ⟨rfl,hR2,hg2⟩;have hd2:=hd1.next hR2 hg2;obtain⟨nm,hnm⟩:∃ n,n=(Czg n1 st1).1:=⟨_,rfl⟩;obtain⟨st2,hs2⟩:∃ n,n=(Czg n1 st1).2:=⟨_,rfl⟩;rw[←hs2] at hd2;rw[←hnm];have HS:=Lib.hid (show n1=(numS 1 (some (r.drop 4))).1∧st1=(numS 1 (some (r.drop 4))).2∧Czg n1 st1=(nm,st2) from ⟨HS0.out.1,HS0.out.2,by rw[hnm,hs2]⟩);clear hd1 hR2 hg2 hnm hs2 HS0;go_upto_region 9 with fail
  have hgl:=hd2.rdr.lt;have hd3:=hd2.alloc (.cells #[.string (ba nm), .slice none 0 0, .slice none 0 0] 47);have hm3:=Blk.new W2 47 #[.string (ba nm), .slice none 0 0, .slice none 0 0];obtain⟨k1,hk1⟩:∃ n,n=(numS 1 st2).1:=⟨_,rfl⟩;obtain⟨st3,hs3⟩:∃ n,n=(numS 1 st2).2:=⟨_,rfl⟩;have HN:=Bzv 1 st2 (by omega);have NC:=Lib.hid (Cz9 gr 1 st2 _ (by omega) hd3.rdr);rw[←hk1, ←hs3] at NC;rw[←hk1] at HN;have hk9:=HN.2 (by omega);have HS3:=Lib.hid (show k1=(numS 1 st2).1∧st3=(numS 1 st2).2 from ⟨hk1,hs3⟩);obtain⟨gm,hgm⟩:∃ g,g=W2.heap.size:=⟨_,rfl⟩;have hgg:gm≠gr:=by omega
  have hgm0:w.heap.size≤gm:=by have:=hd2.below.size;omega
  have hg2m:w.heap.size≠gm:=by have:=hd2.res.lt;omega
  rw[←hgm] at hm3;rw[←hgm];clear HN hk1 hs3 hgm hd2 hgl;go_wp2_with fail;refine NC.out.mono ?_;rintro e W3 ⟨rfl,hR3,hg3⟩;have hd4:=hd3.next hR3 hg3;have hm4:=hm3.grown hg3 (by simpa using hgg);have hj4:DJ w W3 gr gm w.heap.size #[.string (ba nm), .slice none 0 0, .slice none 0 0] st3 st3 104 3 4 1 (.slice none 0 0) (.slice none 0 0) 0 0 (Azc []) [] false false false:=⟨hd4.below,hd4.rdr,hd4.res,⟨_,hm4⟩,fun _=>hm4,fun _=>World.ownsRow_nil _ _ _ _,World.ownsRow_nil _ _ _ _,Nat.le_of_lt hd4.gr0,hgm0,hg2m,⟨by decide,by decide⟩,⟨by decide,by decide⟩,by decide⟩;clear hd3 hm3 hR3 hg3 hd4 hm4 NC;go_upto_block 0 with fail
  have HJ4:=Lib.hid hj4;clear hj4;go_cut [] (fun wx=>∃ (L:List Ins) (n:Nat) (A1:Option Addr) (c1:Nat) (st4:Option (List UInt8)),n≤255∧DJ w wx gr gm w.heap.size #[.string (ba nm), .slice A1 n c1, .slice none 0 0] st4 st4 104 3 4 1 (.slice A1 n c1) (.slice none 0 0) n 0 (Azc L) [] false false false∧Hid (goI st3 k1=st4.map fun r=>(L,r)))
  case first=>
   go_wp2;go_loopw [6] (fun i wr=>Cnt k1 i fun k=>∃ (L:List Ins) (A1:Option Addr) (c1:Nat) (st:Option (List UInt8)),DJ w wr gr gm w.heap.size #[.string (ba nm), .slice A1 k c1, .slice none 0 0] st st 104 3 4 1 (.slice A1 k c1) (.slice none 0 0) k 0 (Azc L) [] false false false∧Hid (goI st3 k1=(goI st (k1 - k)).map fun y=>(L++y.1,y.2))) (fun i _=>k1 - (intOf i).toNat)
   case atStart=>exact⟨0,Nat.zero_le _,rfl,[],none,0,st3,HJ4.out,by show _=_;simp⟩
   case round=>
    obtain⟨k,hk,rfl,L,A1,c1,st,hD,HG⟩:=hrel;cases st with
    | none=>
      obtain⟨s,hB⟩:=hD.rdr;have x1:=hB.cell 1;simp at x1;have HD:=Lib.hid hD;clear hD hB;have HF:Hid (goI st3 k1=(none:Option (List UInt8)).map fun r=>(L,r)):=by show _=_;rw[HG.out];rfl
      by_cases hlt:k<k1
      all_goals
       go_wp2;go_meet;exact⟨L,k,A1,c1,none,by omega,HD.out,HF⟩
    | some r0=>
      obtain⟨hB,hl0⟩:=hD.rdr;have x1:=hB.cell 1;simp at x1;clear hB;by_cases hlt:k<k1
      ·have NC1:=Lib.hid (Cz9 gr 1 (some r0) wr (by omega) hD.rdr)
       have HN1:=Bzv 1 (some r0) (by omega);obtain⟨a1,ha1⟩:∃ a,a=(numS 1 (some r0)).1:=⟨_,rfl⟩;obtain⟨sa,hsa⟩:∃ a,a=(numS 1 (some r0)).2:=⟨_,rfl⟩;rw[←ha1, ←hsa] at NC1;rw[←ha1] at HN1;have ha9:=HN1.2 (by omega);have HA:=Lib.hid (show a1=(numS 1 (some r0)).1∧sa=(numS 1 (some r0)).2 from ⟨ha1,hsa⟩);have HD:=Lib.hid hD;clear ha1 hsa HN1 hD;go_wp2_with fail;refine NC1.out.mono ?_;rintro e Wa ⟨rfl,hRa,hga⟩;have hDa:=HD.out.step (st'':=sa) hRa hga;clear HD NC1 hRa hga x1;have NC2:=Lib.hid (Cz9 gr 1 sa Wa (by omega) hDa.rdr);have HN1:=Bzv 1 sa (by omega);obtain⟨a2,ha2⟩:∃ a,a=(numS 1 sa).1:=⟨_,rfl⟩;obtain⟨sb,hsb⟩:∃ a,a=(numS 1 sa).2:=⟨_,rfl⟩;rw[←ha2, ←hsb] at NC2;rw[←ha2] at HN1;have hb9:=HN1.2 (by omega);have HB:=Lib.hid (show a2=(numS 1 sa).1∧sb=(numS 1 sa).2 from ⟨ha2,hsb⟩);have HDA:=Lib.hid hDa;clear ha2 hsb HN1 hDa;go_wp2_with fail;refine NC2.out.mono ?_;rintro e Wb ⟨rfl,hRb,hgb⟩;have hDb:=Lib.hid (HDA.out.step (st'':=(numS 2 sb).2) hRb hgb);clear HDA NC2 hRb hgb;go_wp2_with fail;refine Szi w gr gm w.heap.size k 0 a1 a2 c1 A1 nm L (.slice none 0 0) [] sb Wb _ hDb.out (by omega) ha9 hb9 ?_;intro listed' Wc y55 y56 y57 y58 y59 y60 y61 y62 y63 y64 y65 y66 y67 hall' hJ;obtain⟨V,hmV,hoV⟩:=hJ.f13 (hall' 13 (by decide));have hw:=hJ.w;rw[hall' 8 (by decide),hall' 11 (by decide),hall' 13 (by decide)] at hw;obtain⟨A2,c2,rfl⟩:=Az1 hoV;have hDc:=Lib.hid (hw.fin (st'':=(numS 2 sb).2) hmV hoV);have hst:stI (some r0)=(numS 2 sb).2:=by unfold stI;rw[←HA.out.2, ←HB.out.2]
       have hxx:insS (some r0)=⟨(a1:Nat),(a2 / 16:Nat),(a2 % 16:Nat),((numS 2 sb).1:Nat)⟩:=by unfold insS;rw[←HA.out.2, ←HB.out.2, ←HA.out.1, ←HB.out.1]
       have HX:Hid (goI st3 k1=(goI (numS 2 sb).2 (k1 - (k+1))).map fun y=>((L++ [⟨(a1:Nat),(a2 / 16:Nat),(a2 % 16:Nat),((numS 2 sb).1:Nat)⟩])++y.1,y.2)):=by
        have g:=Kzq r0 (k1 - k - 1) _ (fun _=>hxx.symm);rw[hst] at g;exact Hzp (f:=goI) HG.out hlt g
       clear hJ hw hmV hoV hst hxx hDb;go_wp2_with fail;go_roundw
       case rel=>exact⟨k+1,by omega,by go_num,_,A2,c2,(numS 2 sb).2,hDc.out,HX⟩
       case measure=>simp[intOf];omega
      ·obtain rfl:k=k1:=by omega
       have HF:Hid (goI st3 k=(some r0).map fun r=>(L,r)):=by show _=_;rw[HG.out,Nat.sub_self,Kzr];simp
       have HD:=Lib.hid hD;clear hD;go_wp2;go_meet;exact⟨L,k,A1,c1,some r0,by omega,HD.out,HF⟩
  case rest=>
   clear HJ4;obtain⟨L,n4,A4,c4,st4,hn4,hD4,HG4⟩:=hcut;obtain⟨j1,hj1⟩:∃ n,n=(numS 1 st4).1:=⟨_,rfl⟩;obtain⟨st5,hs5⟩:∃ n,n=(numS 1 st4).2:=⟨_,rfl⟩;have HN:=Bzv 1 st4 (by omega);have NC:=Lib.hid (Cz9 gr 1 st4 wc (by omega) hD4.rdr);rw[←hj1, ←hs5] at NC;rw[←hj1] at HN;have hj9:=HN.2 (by omega);have HS5:=Lib.hid (show j1=(numS 1 st4).1∧st5=(numS 1 st4).2 from ⟨hj1,hs5⟩);have HD4:=Lib.hid hD4;clear HN hj1 hs5 hD4;go_wp2_with fail;refine NC.out.mono ?_;rintro e W4 ⟨rfl,hR4,hg4⟩;have HJ5:=Lib.hid ((HD4.out.step (st'':=st5) hR4 hg4).swap (st'':=st5));clear NC hR4 hg4 HD4;go_upto_block 2 with fail
   go_cut [] (fun wx=>∃ (D:List Int) (n:Nat) (A1:Option Addr) (c1:Nat) (st6:Option (List UInt8)),n≤255∧DJ w wx gr gm w.heap.size #[.string (ba nm), .slice A4 n4 c4, .slice A1 n c1] st6 st6 3 104 1 4 (.slice A1 n c1) (.slice A4 n4 c4) n n4 (intCells D) (Azc L) false false false∧Hid (goW st5 j1=st6.map fun r=>(D,r)))
   case first=>
    go_wp2;go_loopw [10] (fun i wr=>Cnt j1 i fun k=>∃ (D:List Int) (A1:Option Addr) (c1:Nat) (st:Option (List UInt8)),DJ w wr gr gm w.heap.size #[.string (ba nm), .slice A4 n4 c4, .slice A1 k c1] st st 3 104 1 4 (.slice A1 k c1) (.slice A4 n4 c4) k n4 (intCells D) (Azc L) false false false∧Hid (goW st5 j1=(goW st (j1 - k)).map fun y=>(D++y.1,y.2))) (fun i _=>j1 - (intOf i).toNat)
    case atStart=>exact⟨0,Nat.zero_le _,rfl,[],none,0,st5,HJ5.out,by show _=_;simp⟩
    case round=>
     clear HJ5;obtain⟨k,hk,rfl,D,A1,c1,st,hD,HG⟩:=hrel;cases st with
     | none=>
       obtain⟨s,hB⟩:=hD.rdr;have x1:=hB.cell 1;simp at x1;have HD:=Lib.hid hD;clear hD hB;have HF:Hid (goW st5 j1=(none:Option (List UInt8)).map fun r=>(D,r)):=by show _=_;rw[HG.out];rfl
       by_cases hlt:k<j1
       all_goals
        go_wp2;go_meet;exact⟨D,k,A1,c1,none,by omega,HD.out,HF⟩
     | some r0=>
       obtain⟨hB,hl0⟩:=hD.rdr;have x1:=hB.cell 1;simp at x1;clear hB;by_cases hlt:k<j1
       ·have hDb:Hid (DJ w wr gr gm w.heap.size #[.string (ba nm), .slice A4 n4 c4, .slice A1 k c1] (some r0) (numS 2 (some r0)).2 3 104 1 4 (.slice A1 k c1) (.slice A4 n4 c4) k n4 (intCells D) (Azc L) false false false):=⟨hD.below,hD.rdr,hD.res,hD.mdx,hD.md,hD.oc,hD.ox,hD.gr0,hD.gm0,hD.g2m,hD.te,hD.te',hD.tee⟩
        clear hD;go_wp2_with fail;refine Szj w gr gm w.heap.size k n4 c1 A1 nm D (.slice A4 n4 c4) (Azc L) (some r0) wr _ hDb.out (by omega) ?_;intro listed' Wc y82 y83 y84 y85 y86 y87 y88 hall' hJ;obtain⟨V,hmV,hoV⟩:=hJ.f7 (hall' 7 (by decide));have hw:=hJ.w;rw[hall' 3 (by decide),hall' 5 (by decide),hall' 7 (by decide)] at hw;obtain⟨A2,c2,rfl⟩:=Az1 hoV;have hDc:=Lib.hid (hw.fin (st'':=(numS 2 (some r0)).2) hmV hoV);have HX:Hid (goW st5 j1=(goW (numS 2 (some r0)).2 (j1 - (k+1))).map fun y=>((D++ [((numS 2 (some r0)).1:Int)])++y.1,y.2)):=
         Hzp (f:=goW) HG.out hlt (Kzs r0 (j1 - k - 1) _ (fun _=>rfl))
        clear hJ hw hmV hoV hDb x1;go_wp2_with fail;go_roundw
        case rel=>exact⟨k+1,by omega,by go_num,_,A2,c2,(numS 2 (some r0)).2,hDc.out,HX⟩
        case measure=>simp[intOf];omega
       ·obtain rfl:k=j1:=by omega
        have HF:Hid (goW st5 k=(some r0).map fun r=>(D,r)):=by show _=_;rw[HG.out,Nat.sub_self,Kzt];simp
        have HD:=Lib.hid hD;clear hD;go_wp2;go_meet;exact⟨D,k,A1,c1,some r0,by omega,HD.out,HF⟩
   case rest=>
    clear HJ5;obtain⟨D,n6,A6,c6,st6,hn6,hD6,HG6⟩:=hcut;have HM:Hid (getM (r.drop 4)=st6.map fun r=>(⟨ba nm,L,D⟩,r)):=by
     refine Fz2 (nm:=nm) (st2:=st2) (st4:=st4) ?_ ?_ ?_
     ·rw[←HS.out.1, ←HS.out.2.1];exact HS.out.2.2
     ·rw[←HS3.out.1, ←HS3.out.2];exact HG4.out
     ·rw[←HS5.out.1, ←HS5.out.2];exact HG6.out
    have hnl:nm.length≤255:=by have:=Ezq n1 st1;rw[HS.out.2.2] at this;simp only at this;omega
    clear HS HS3 HS5 HG4 HG6;cases st6 with
    | none=>
      have HD:Hid (decE (ba r).data.toList Az7=(none,5)):=by show _=_;rw[HDE.out,HM.out];rfl
      clear HDE HM;obtain⟨s,hB⟩:=hD6.rdr;have x1:=hB.cell 1;simp at x1;have hrg:gr≠w.heap.size:=hB.ne_ hD6.res (by decide);have HB:=Lib.hid hB;have HX:=Lib.hid hD6;clear hB hD6;obtain⟨z0,z1,z2,g0,g1, -⟩:=HX.out.res.a3;have g2':=HX.out.res.frozen 2;simp at z0 z1 z2;have hS:=Lib.hid (((HX.out.below.setCell (p:=⟨w.heap.size,0,none⟩) (Nat.le_refl _) (.string ⟨#[]⟩)).setCell (p:=⟨w.heap.size,1,none⟩) (Nat.le_refl _) (.slice none 0 0)).setCell (p:=⟨w.heap.size,2,none⟩) (Nat.le_refl _) (.slice none 0 0));have hT:=Lib.hid (((HX.out.res.set_ 0 (.string ⟨#[]⟩)).set_ 1 (.slice none 0 0)).set_ 2 (.slice none 0 0));go_upto_region 21 with fail
      go_region_with (fail)
      all_goals (go_wp2_with fail)
      all_goals (refine bodyPost_ret (v:= .tuple #[.agg #[.string ⟨#[]⟩, .slice none 0 0, .slice none 0 0], .int .i64 5]) ?_ rfl (DecPost.no HD.out rfl ?_))
      all_goals (first|exact Below.drewN' hS.out 1|exact hS.out|(simp[results,Tryz.results47,go_sem,z0,z1,z2]))
    | some r6=>
      cases r6 with
      | nil=>
        obtain⟨hB,_⟩:=hD6.rdr;obtain⟨x0,x1, -⟩:=hB.a2;simp at x0 x1;have e4:(ba []).toList=[]:=ByteArray.toList_mk [];have hlL:L.length=n4:=by have:=hD6.ox.1;rw[Czn] at this;omega
        have hlD:D.length=n6:=by have:=(hD6.oc rfl).1;simp[intCells] at this;omega
        subst hlL hlD;have hmd:=hD6.md rfl;obtain⟨m0,m1,m2, -⟩:=hmd.a3;simp at m0 m1 m2;have hm:=Lib.hid (Fzg ⟨ba nm,L,D⟩ A4 A6 c4 c6 wc (by show nm.length≤maxLen;unfold maxLen;omega) (RdI.of (Rd.of_own hD6.ox)) (RdN.of (Rd.of_own (hD6.oc rfl))) (ht.below hD6.below) (by show L.length≤maxLen;unfold maxLen;omega) (by show D.length≤maxLen;unfold maxLen;omega));have HX:=Lib.hid hD6;have HMD:=Lib.hid hmd;clear hB hD6 hmd;obtain⟨mc,hmc⟩:∃ x,x=Az7 ⟨ba nm,L,D⟩:=⟨_,rfl⟩;rw[←hmc] at hm;have HMC:=Lib.hid hmc;clear hmc;go_wp2_with fail;refine hm.out.mono ?_;rintro e w1 ⟨rfl,hb1⟩;have hres:=HX.out.res.below hb1 HX.out.res.lt;have hbw:=HX.out.below.trans (hb1.mono HX.out.below.size);obtain⟨z0,z1,z2,g0,g1, -⟩:=hres.a3;have g2':=hres.frozen 2;have hmd1:=HMD.out.below hb1 HMD.out.lt;obtain⟨y0,y1,y2, -⟩:=hmd1.a3;simp at z0 z1 z2 y0 y1 y2;have HBW:=Lib.hid hbw;have HR:=Lib.hid hres;have HO4:=Lib.hid (own_below HX.out.ox hb1);have HO6:=Lib.hid (own_below (HX.out.oc rfl) hb1);clear hb1 hres hbw hmd1 m0 m1 m2 x0 x1;by_cases hc0:mc=0
        ·have HD:Hid (decE (ba r).data.toList Az7=(some ⟨ba nm,L,D⟩,0)):=by show _=_;rw[HDE.out,HM.out];simp only[Option.map_some];rw[if_neg (by simp),if_pos (by rw[←HMC.out];exact hc0)]
         subst hc0;go_wp2_with fail;have T1:=Tch.of_set (p:=⟨w.heap.size,0,none⟩) HR.out (.string (ba nm));have R1:=HR.out.set_ 0 (.string (ba nm));have T2:=Tch.of_set (p:=⟨w.heap.size,1,none⟩) R1 (.slice A4 L.length c4);have R2:=R1.set_ 1 (.slice A4 L.length c4);have T3:=Tch.of_set (p:=⟨w.heap.size,2,none⟩) R2 (.slice A6 D.length c6);have hf:=((HBW.out.setCell (p:=⟨w.heap.size,0,none⟩) (Nat.le_refl _) (.string (ba nm))).setCell (p:=⟨w.heap.size,1,none⟩) (Nat.le_refl _) (.slice A4 L.length c4)).setCell (p:=⟨w.heap.size,2,none⟩) (Nat.le_refl _) (.slice A6 D.length c6);have o4:=Az4 (Az4 (Az4 HO4.out T1 (by decide)) T2 (by decide)) T3 (by decide);have o6:=Az4 (Az4 (Az4 HO6.out T1 (by decide)) T2 (by decide)) T3 (by decide);refine bodyPost_ret (v:= .tuple #[.agg #[.string (ba nm), .slice A4 L.length c4, .slice A6 D.length c6], .int .i64 0]) ?_ rfl (DecPost.yes HD.out rfl o4 o6 hf);simp[results,Tryz.results47,go_sem,z0,z1,z2]
        ·have hcn:(mc != 0)=true:=by rw[bne_iff_ne];exact hc0
         have HD:Hid (decE (ba r).data.toList Az7=(none,mc)):=by show _=_;rw[HDE.out,HM.out];simp only[Option.map_some];rw[if_neg (by simp),if_neg (by rw[←HMC.out];exact hc0),HMC.out]
         clear hc0;go_wp2_with fail;have hf:=((HBW.out.setCell (p:=⟨w.heap.size,0,none⟩) (Nat.le_refl _) (.string ⟨#[]⟩)).setCell (p:=⟨w.heap.size,1,none⟩) (Nat.le_refl _) (.slice none 0 0)).setCell (p:=⟨w.heap.size,2,none⟩) (Nat.le_refl _) (.slice none 0 0);refine bodyPost_ret (v:= .tuple #[.agg #[.string ⟨#[]⟩, .slice none 0 0, .slice none 0 0], .int .i64 mc]) ?_ rfl (DecPost.no HD.out rfl hf);simp[results,Tryz.results47,go_sem,z0,z1,z2]
      | cons z r7=>
        have HD:Hid (decE (ba r).data.toList Az7=(none,4)):=by show _=_;rw[HDE.out,HM.out];rfl
        clear HDE HM;obtain⟨hB,_⟩:=hD6.rdr;obtain⟨x0,x1, -,f1, -⟩:=hB.a2;simp at x0 x1;have e4:(ba (z::r7)).toList=z::r7:=ByteArray.toList_mk _;have hrg:gr≠w.heap.size:=hB.ne_ hD6.res (by decide);have hB4:=Lib.hid (hB.set_ 1 (.int .i64 4));have hb4:=Lib.hid (hD6.below.setCell (p:=⟨gr,1,none⟩) hD6.gr0 (.int .i64 4));have hr4:=Lib.hid (hD6.res.far (p:=⟨gr,1,none⟩) hrg.symm (.int .i64 4));clear hB hD6;obtain⟨z0,z1,z2,g0,g1, -⟩:=hr4.out.a3;have g2':=hr4.out.frozen 2;simp at z0 z1 z2;have hS:=Lib.hid (((hb4.out.setCell (p:=⟨w.heap.size,0,none⟩) (Nat.le_refl _) (.string ⟨#[]⟩)).setCell (p:=⟨w.heap.size,1,none⟩) (Nat.le_refl _) (.slice none 0 0)).setCell (p:=⟨w.heap.size,2,none⟩) (Nat.le_refl _) (.slice none 0 0));have hT:=Lib.hid (((hr4.out.set_ 0 (.string ⟨#[]⟩)).set_ 1 (.slice none 0 0)).set_ 2 (.slice none 0 0));go_upto_region 21 with fail
        go_region_with (fail)
        all_goals (go_wp2_with fail)
        all_goals (refine bodyPost_ret (v:= .tuple #[.agg #[.string ⟨#[]⟩, .slice none 0 0, .slice none 0 0], .int .i64 4]) ?_ rfl (DecPost.no HD.out rfl ?_))
        all_goals (first|exact Below.drewN' hS.out 1|exact hS.out|(simp[results,Tryz.results47,go_sem,z0,z1,z2]))
 ·have hb3:(Dzn (r.drop 4) == r.take 4)=false:=by rw[beq_eq_false_iff_ne];exact h3
  have HD:Hid (decE (ba r).data.toList Az7=(none,11)):=by show decE r Az7=_;unfold decE;rw[if_neg h1,if_neg h2,if_pos h3]
  have hb4:(!(Dzn (r.drop 4) == r.take 4))=true:=by rw[hb3];rfl
  clear h3 hb3;go_enter Tryz.func47,Tryz.ntmps47;go_upto_region 5 with fail
  refine Szk _ r _ (by omega) (by omega) ?_;intro listed W y21 y22 y23 y24 y25 y26 hall hJ;have e26:=hJ.f5 (hall 5 (by decide));rw[hb4] at e26;subst e26;have hbW:=hJ.w;clear hJ;have hBW:=hB0.below hbW (by simp);have HB:=Lib.hid (hb0.trans (hbW.mono hb0.size));obtain⟨x0,x1,x2,f0,f1,f2, -⟩:=hBW.a3;simp at x0 x1 x2;clear hbW hB0;go_wp2;refine bodyPost_ret (v:= .tuple #[.agg #[.string ⟨#[]⟩, .slice none 0 0, .slice none 0 0], .int .i64 11]) (by simp[results,Tryz.results47,go_sem,x0,x1,x2]) rfl ?_;exact DecPost.no HD.out rfl ((((HB.out.setCell (p:=⟨w.heap.size,0,none⟩) (Nat.le_refl _) _).setCell (p:=⟨w.heap.size,1,none⟩) (Nat.le_refl _) _).setCell (p:=⟨w.heap.size,2,none⟩) (Nat.le_refl _) _))
attribute [local go_sem] After.cell
def Qzg (B:Nat) (w:World) (g:Nat) (es:List Value) (r:Krn × Ans) (e:Ending) (w':World):Prop:=
 e= .returned (.tuple #[.int .i64 r.2.n, .int .i64 r.2.code])∧Fr B w w'∧∃ a' ms',KS B w' g a' r.1 ms' es
theorem Dzu {m:Mod} (h:Az7 m=0):m.name.size≤6∧m.code.length≤200∧m.data.length≤64:=by
 have hv:=((Bzn _).1 ((Czw _).1 (Hzu h)).1).1;unfold Az7 at h;split at h
 ·rename_i hn
  split at h
  ·cases h
  ·unfold Azs at hn
   simp at hn;omega
 ·cases h
theorem Nz9:(Tryz.prog.info? 3).map (fun i=>(i.zero,i.size,i.bytes))=some (some (.int .i64 0),1,8):=by kernel_rfl
theorem Gzq:∀ args w,(callFunc 48 args).run Tryz.prog w= .ok (.enter 48 args) w:=fun args w=>by
 simp only[callFunc,run_program,Sem.run_bind,Result.andThen_ok,Tryz.func48];rfl
theorem Izt (n:ByteArray) (V1 V2:Value) (b:Nat) (s:ByteArray) (w:World) (h1:b<w.heap.size) (c1:w.cell? ⟨b,0,none⟩=some (.string s)):
  Calls Tryz.prog 48 #[.agg #[.string n,V1,V2], .pointer (some ⟨b,0,none⟩)] w fun e w'=>e= .returned (.bool (n == s))∧Below w.heap.size w w':=by
 go_enter Tryz.func48,Tryz.ntmps48;go_wp2;go_ret;exact⟨Az9 (bs_l _ _),Az6 w _⟩
theorem Ezp (w:World) (b:Nat) (cs:Array Value):w.grownBy (w.setRow b cs) (some b):=⟨rfl,rfl,rfl,by simp,fun q _ hne=>setRow_other w b q cs (fun e=>hne (by rw[e]))⟩
section
variable {B g b o:Nat} {a:KA} {k:Krn} {ms:List (Value × Value)} {es:List Value} {w w':World}
theorem KS.memRow (h:KS B w g a k ms es) (ha:a.a1=some ⟨b,0,none⟩) (l:List Int) (hl:o+l.length≤k.mem.length):
  ∃ cur,w.heap[b]? =some (.cells cur 3 (0,0))∧o+l.length≤cur.size∧
   KS B (w.setRow b (cur.toList.take o++intCells l++cur.toList.drop (o+l.length)).toArray) g a { k with mem:=k.mem.take o++l++k.mem.drop (o+l.length) } ms es∧
   Fr B w (w.setRow b (cur.toList.take o++intCells l++cur.toList.drop (o+l.length)).toArray)∧B≤b:=by
 have hn:=h.cp.mem;rw[ha] at hn;have hbb:B≤b:=(hn.lt b rfl).1;obtain⟨hlen,h2⟩:=hn;rcases h2 with⟨h2,_⟩|⟨b',cap,cur,hv,_,hh,hnc,hcm,hcs,htk⟩
 ·cases h2
 cases hv
 have hil:(intCells l).length=l.length:=by simp[intCells]
 have hcl:cur.toList.length=cur.size:=by simp
 have hcsz:o+l.length≤cur.size:=by omega
 refine⟨cur,hh,hcsz,?_⟩;obtain⟨cs,hcs'⟩:∃ cs,cs=cur.toList.take o++intCells l++cur.toList.drop (o+l.length):=⟨_,rfl⟩;have hcsl:cs.length=cur.size:=by rw[hcs',List.length_append,List.length_append,List.length_take,List.length_drop,hil,hcl];omega
 have hml:(k.mem.take o++l++k.mem.drop (o+l.length)).length=k.mem.length:=by rw[List.length_append,List.length_append,List.length_take,List.length_drop];omega
 rw[←hcs'];have hg:=Ezp w b cs.toArray;have hnew:(w.setRow b cs.toArray).heap[b]? =some (.cells cs.toArray 3 (0,0)):=setRow_heap w b cur _ _ _ hh;have ht:Tch 3 w (w.setRow b cs.toArray):=⟨rfl,rfl,rfl,by simp,fun q hq hne=>setRow_other w b q _ (fun e=>by subst e;exact hne _ _ hh)⟩;have hbel:Below B w (w.setRow b cs.toArray):=below_setRow (Below.refl B w) hbb _;have hpre:cs.take k.mem.length=intCells (k.mem.take o++l++k.mem.drop (o+l.length)):=by
  have ek:intCells k.mem=cur.toList.take k.mem.length:=by rw[←htk,Nat.mul_one]
  have e1:intCells (k.mem.take o++l++k.mem.drop (o+l.length))=(intCells k.mem).take o++intCells l++(intCells k.mem).drop (o+l.length):=by simp[intCells,List.map_append,List.map_take,List.map_drop]
  rw[e1,ek,hcs'];apply List.ext_getElem?;intro j;have t1:(cur.toList.take o).length=o:=by rw[List.length_take];omega
  have t2:((cur.toList.take k.mem.length).take o).length=o:=by rw[List.length_take,List.length_take];omega
  rcases Nat.lt_or_ge j o with h1|h1
  ·rw[List.getElem?_take,if_pos (by omega),List.append_assoc,List.getElem?_append_left (by omega),List.append_assoc,List.getElem?_append_left (by omega),List.getElem?_take,if_pos h1,List.getElem?_take,if_pos h1,List.getElem?_take,if_pos (by omega)]
  ·rcases Nat.lt_or_ge j (o+l.length) with h3|h3
   ·rw[List.getElem?_take,if_pos (by omega),List.append_assoc,List.getElem?_append_right (by omega),t1,List.getElem?_append_left (by rw[hil];omega),List.append_assoc,List.getElem?_append_right (by omega),t2,List.getElem?_append_left (by rw[hil];omega)]
   ·rw[List.getElem?_take,List.getElem?_append_right (by rw[List.length_append,hil];omega),List.getElem?_append_right (by rw[List.length_append,hil];omega),List.length_append,List.length_append,t1,t2,hil,List.getElem?_drop,List.getElem?_drop,List.getElem?_take]
    rw[show o+l.length+(j - (o+l.length))=j by omega]
 refine⟨⟨h.lo,?_,?_,?_⟩, .tch hbel ht (by decide),hbb⟩
 ·have:=h.blk.tch ht (by decide)
  unfold KA.cells at this ⊢;rw[hml];exact this
 ·simp only
  rw[hml];refine⟨Az4 h.cp.mods ht (by decide),?_,?_,Az4 h.cp.nodes ht (by decide),Az4 h.cp.pipes ht (by decide),Az4 h.cp.procs ht (by decide),h.cp.ends.tch ht (by decide),h.cp.apart,h.cp.each⟩
  ·have key:∀ {l:List Mod} {xs:List (Value × Value)},ModRows w B l xs→(∀ x∈xs,x.2.ownBlock=none∨x.2.ownBlock≠some b)→ModRows (w.setRow b cs.toArray) B l xs:=by
    intro l
    induction l with
    | nil=>intro xs hh _;cases xs with
      | nil=>trivial
      | cons _ _=>exact hh.elim
    | cons m r ih=>intro xs hh hx;cases xs with
      | nil=>exact hh.elim
      | cons y s=>
        refine⟨⟨Az4 hh.1.1 ht (by decide),?_⟩,ih hh.2 fun z hz=>hx z (List.mem_cons_of_mem _ hz)⟩;exact hh.1.2.kept hg (by
         rcases hx y (List.mem_cons_self ..) with h2|h2
         ·exact .inl h2
         ·exact .inr h2)
   exact key h.cp.rows fun x hx=>by
    have:=h.cp.apart x hx;rw[ha] at this;exact this
  ·simp only
   rw[hml,ha];refine⟨by rw[←hpre,List.length_take];omega, .inr ⟨b,_,_,rfl,hbb,hnew,hnc,hcm,by simp;omega,?_⟩⟩;rw[Nat.mul_one, ←hpre]
 ·exact Dzy h.fits rfl h.fits.p hml rfl rfl rfl
end
end Go.Proofs.YtdjamdbamkhblacGreatDoor
namespace Go.Proofs.YtdjamdbamkhblacGreatDoor
open Go.RowKit
set_option linter.unusedVariables false
set_option linter.unusedSimpArgs false
structure InsJ (w0:World) (B bw g bm n c0:Nat) (A0:Option Addr) (nm:ByteArray) (AC AD:Option Addr) (lc cC ld cD:Nat) (xs:List Value) (u1 u2 u3 u4:Value) (t0t t1t t2t t3t t4t t5t t6t t7t t8t t9t t10t t11t t12t:Bool) (W:World) (y41 y42 y43 y44 y45 y46 y47 y48 y49 y50 y51 y52:Value):Prop where
 f0:t0t=true→y41= .pointer (some ⟨bw,0,none⟩)
 f1:t1t=true→y42= .pointer (some ⟨g,0,none⟩)
 f2:t2t=true→y43= .pointer (some ⟨bw,0,none⟩)
 f3:t3t=true→y44= .pointer (some ⟨g,0,none⟩)
 f4:t4t=true→y45= .pointer (some ⟨g,0,none⟩)
 f5:t5t=true→y46= .pointer (some ⟨g,0,none⟩)
 f6:t6t=true→y47= .slice A0 n c0
 f7:t7t=true→y48= .agg #[.string nm, .slice AC lc cC, .slice AD ld cD]
 f8:t8t=true→∃ s:Nat,y49= .slice (some ⟨s,0,none⟩) 1 1∧w0.heap.size≤s∧s<W.heap.size∧(t9t=false→Blk W s 47 #[.string nm, .slice AC lc cC, .slice AD ld cD])
 f9:t9t=true→∃ s:Value,y50=s∧(t12t=false→∃ W1,Below w0.heap.size w0 W1∧W.ownsRow B 47 3 s (n+1) (xs++ [.string nm, .slice AC lc cC, .slice AD ld cD])∧W1.grownBy W (Value.slice A0 n c0).ownBlock)
 f10:t10t=true→y51= .pointer (some ⟨g,0,none⟩)
 f11:t11t=true→y52= .pointer (some ⟨g,0,none⟩)
 f12:t12t=true→∃ (V:Value) (W1 W2:World),Below w0.heap.size w0 W1∧W2.ownsRow B 47 3 V (n+1) (xs++ [.string nm, .slice AC lc cC, .slice AD ld cD])∧W1.grownBy W2 (Value.slice A0 n c0).ownBlock∧W=W2.setCell ⟨g,0,none⟩ V
 q12_1:t12t=true→t1t=true
 q12_3:t12t=true→t3t=true
 q12_6:t12t=true→t6t=true
 q12_8:t12t=true→t8t=true
 q12_9:t12t=true→t9t=true
 q9_6:t9t=true→t6t=true
 q9_7:t9t=true→t7t=true
 q9_8:t9t=true→t8t=true
 q8_7:t8t=true→t7t=true
 w:(t9t=false→Below w0.heap.size w0 W)∧(t12t=false→Tch 47 w0 W)
noncomputable def Pz7:Code:=((Tryz.f15.body.bind (Czf 9)).getD .skip)
theorem Rz5 (w0:World) (B bw g bm n c0:Nat) (A0:Option Addr) (nm:ByteArray) (AC AD:Option Addr) (lc cC ld cD:Nat) (xs:List Value) (u1 u2 u3 u4:Value) {v0 v1 v3 v4 v5 v7 v8 v9 v10 v11 v12 v13 v14 v15 v16 v17 v18 v19 v20 v21 v22 v23 v24 v25 v26 v27 v28 v29 v30 v31 v32 v33 v34 v35 v36 v37 v38 v39 v40 v41 v42 v43 v44 v45 v46 v47 v48 v49 v50 v51 v52 v53 v54 v55 v56 v57 v58 v59 v60 v61 v62 v63 v64 v65 v66 v67 v68 v69:Value} (wr:World) (Q:Exit→Act→World→Prop) (hbs:Below w0.heap.size w0 wr.drew) (hBw:B≤w0.heap.size) (hwk:Blk w0 bw 59 #[.pointer (some ⟨g,0,none⟩)]) (hkb:Blk w0 g 30 #[.slice A0 n c0,u1,u2,u3,u4]) (hmd:Blk w0 bm 47 #[.string nm, .slice AC lc cC, .slice AD ld cD]) (hown:w0.ownsRow B 47 3 (.slice A0 n c0) n xs) (hn:n<8)
  (hQ:∀ (listed:Array Bool) (W:World) (y41 y42 y43 y44 y45 y46 y47 y48 y49 y50 y51 y52:Value),(∀ i,i<13→listed.getD i true=true)→InsJ w0 B bw g bm n c0 A0 nm AC AD lc cC ld cD xs u1 u2 u3 u4 (listed.getD 0 true) (listed.getD 1 true) (listed.getD 2 true) (listed.getD 3 true) (listed.getD 4 true) (listed.getD 5 true) (listed.getD 6 true) (listed.getD 7 true) (listed.getD 8 true) (listed.getD 9 true) (listed.getD 10 true) (listed.getD 11 true) (listed.getD 12 true) W y41 y42 y43 y44 y45 y46 y47 y48 y49 y50 y51 y52→Q .normal ⟨#[v0,v1, .pointer (some ⟨bw,0,none⟩),v3,v4,v5, .pointer (some ⟨bm,0,none⟩),v7,v8,v9,v10,v11,v12,v13,v14,v15,v16,v17,v18,v19,v20,v21,v22,v23,v24,v25,v26,v27,v28,v29,v30,v31,v32,v33,v34,v35,v36,v37,v38,v39,v40,y41,y42,y43,y44,y45,y46,y47,y48,y49,y50,y51,y52,v53,v54,v55,v56,v57,v58,v59,v60,v61,v62,v63,v64,v65,v66,v67,v68,v69],[]⟩ W):
  Code.wp Tryz.prog Pz7 Q ⟨#[v0,v1, .pointer (some ⟨bw,0,none⟩),v3,v4,v5, .pointer (some ⟨bm,0,none⟩),v7,v8,v9,v10,v11,v12,v13,v14,v15,v16,v17,v18,v19,v20,v21,v22,v23,v24,v25,v26,v27,v28,v29,v30,v31,v32,v33,v34,v35,v36,v37,v38,v39,v40,v41,v42,v43,v44,v45,v46,v47,v48,v49,v50,v51,v52,v53,v54,v55,v56,v57,v58,v59,v60,v61,v62,v63,v64,v65,v66,v67,v68,v69],[]⟩ wr:=by
 have HQ:=Lib.hid hQ;clear hQ;conv=>arg 2;whnf
 refine Azj (fun listed a W=>∃ y41 y42 y43 y44 y45 y46 y47 y48 y49 y50 y51 y52,InsJ w0 B bw g bm n c0 A0 nm AC AD lc cC ld cD xs u1 u2 u3 u4 (listed.getD 0 true) (listed.getD 1 true) (listed.getD 2 true) (listed.getD 3 true) (listed.getD 4 true) (listed.getD 5 true) (listed.getD 6 true) (listed.getD 7 true) (listed.getD 8 true) (listed.getD 9 true) (listed.getD 10 true) (listed.getD 11 true) (listed.getD 12 true) W y41 y42 y43 y44 y45 y46 y47 y48 y49 y50 y51 y52∧a=⟨#[v0,v1, .pointer (some ⟨bw,0,none⟩),v3,v4,v5, .pointer (some ⟨bm,0,none⟩),v7,v8,v9,v10,v11,v12,v13,v14,v15,v16,v17,v18,v19,v20,v21,v22,v23,v24,v25,v26,v27,v28,v29,v30,v31,v32,v33,v34,v35,v36,v37,v38,v39,v40,y41,y42,y43,y44,y45,y46,y47,y48,y49,y50,y51,y52,v53,v54,v55,v56,v57,v58,v59,v60,v61,v62,v63,v64,v65,v66,v67,v68,v69],[]⟩) (by kernel_rfl) (Czi (by kernel_rfl)) ?start ?step ?fin
 case start=>
  refine⟨_,_,_,_,_,_,_,_,_,_,_,_,?_,rfl⟩;constructor
  all_goals first|exact⟨fun _=>hbs,fun _=>Tch.of_below hbs⟩|exact fun _=>rfl|exact fun h=>absurd h (by decide)
 case step=>
  intro i o ho listed a W hl haf hI K hK;obtain⟨y41,y42,y43,y44,y45,y46,y47,y48,y49,y50,y51,y52,hJ,rfl⟩:=hI;have hK:=fun (W':World) z41 z42 z43 z44 z45 z46 z47 z48 z49 z50 z51 z52 h=>hK _ W' ⟨z41,z42,z43,z44,z45,z46,z47,z48,z49,z50,z51,z52,h,rfl⟩
  simp only[Az2] at hK;have hi:i<13:=(Array.getElem?_eq_some_iff.1 ho).1;have h16:i=0∨i=1∨i=2∨i=3∨i=4∨i=5∨i=6∨i=7∨i=8∨i=9∨i=10∨i=11∨i=12:=by omega
  rcases h16 with rfl|rfl|rfl|rfl|rfl|rfl|rfl|rfl|rfl|rfl|rfl|rfl|rfl
  all_goals
   have ho:=Option.some.inj ho;subst ho
   try simp[Region.binds] at haf
  ·
    go_simp;apply hK;exact { hJ with f0:=fun _=>rfl,w:=⟨fun h=>hJ.w.1 h,fun h=>hJ.w.2 h⟩ }
  ·
    obtain rfl:=hJ.f0 (Az0 (by simp[haf]));have h12:=nlR hJ.q12_1 hl;have hkw:=hwk.tch (hJ.w.2 h12) (by decide);obtain⟨e1, -, -, -,el⟩:=hkw.a2;simp at e1;go_simp;apply hK;exact { hJ with f1:=fun _=>rfl,q12_1:=fun _=>rfl,w:=⟨fun h=>hJ.w.1 h,fun h=>hJ.w.2 h⟩ }
  ·
    go_simp;apply hK;exact { hJ with f2:=fun _=>rfl,w:=⟨fun h=>hJ.w.1 h,fun h=>hJ.w.2 h⟩ }
  ·
    obtain rfl:=hJ.f2 (Az0 (by simp[haf]));have h12:=nlR hJ.q12_3 hl;have hkw:=hwk.tch (hJ.w.2 h12) (by decide);obtain⟨e1, -, -, -,el⟩:=hkw.a2;simp at e1;go_simp;apply hK;exact { hJ with f3:=fun _=>rfl,q12_3:=fun _=>rfl,w:=⟨fun h=>hJ.w.1 h,fun h=>hJ.w.2 h⟩ }
  ·
    obtain rfl:=hJ.f3 (Az0 (by simp[haf]));go_simp;apply hK;exact { hJ with f4:=fun _=>rfl,w:=⟨fun h=>hJ.w.1 h,fun h=>hJ.w.2 h⟩ }
  ·
    obtain rfl:=hJ.f4 (Az0 (by simp[haf]));go_simp;apply hK;exact { hJ with f5:=fun _=>rfl,w:=⟨fun h=>hJ.w.1 h,fun h=>hJ.w.2 h⟩ }
  ·
    obtain rfl:=hJ.f5 (Az0 (by simp[haf]));have h12:=nlR hJ.q12_6 hl;have hkk:=hkb.tch (hJ.w.2 h12) (by decide);have h9:=nlR hJ.q9_6 hl;have hkk:=hkb.below (hJ.w.1 h9) hkb.lt;obtain⟨e1, -, -, -,el⟩:=hkk.a2;simp at e1;go_simp;apply hK;exact { hJ with f6:=fun _=>rfl,q12_6:=fun _=>rfl,q9_6:=fun _=>rfl,w:=⟨fun h=>hJ.w.1 h,fun h=>hJ.w.2 h⟩ }
  ·
    have h9:=nlR hJ.q9_7 hl;have hkk:=hmd.below (hJ.w.1 h9) hmd.lt;obtain⟨e0,e1,e2, -, -, -,el⟩:=hkk.a3;simp at e0 e1 e2;go_simp;apply hK;exact { hJ with f7:=fun _=>rfl,q9_7:=fun _=>rfl,q8_7:=fun _=>rfl,w:=⟨fun h=>hJ.w.1 h,fun h=>hJ.w.2 h⟩ }
  ·
    have p7:listed.getD 7 true=true:=Az0 (by simp[haf]);obtain rfl:=hJ.f7 p7;have h9:=nlR hJ.q9_8 hl;go_simp;apply hK;exact { hJ with f8:=fun _=>⟨W.heap.size,rfl,(hJ.w.1 h9).size,by simp,fun _=>Blk.new _ _ _⟩,f9:=fun x=>by have e:=hJ.q9_8 x;rw[hl] at e;exact absurd e (by decide),f12:=fun x=>by have e:=hJ.q12_8 x;rw[hl] at e;exact absurd e (by decide),q12_8:=fun _=>rfl,q9_8:=fun _=>rfl,q8_7:=fun _=>p7,w:=⟨fun h=>(hJ.w.1 h).alloc (hJ.w.1 h).size _,fun h=>(hJ.w.2 h).trans (Tch.of_below ((Below.refl _ _).alloc (Nat.le_refl _) _))⟩ }
  ·
    have p6:listed.getD 6 true=true:=Az0 (by simp[haf]);have p8:listed.getD 8 true=true:=Az0 (by simp[haf]);obtain rfl:=hJ.f6 p6;obtain⟨s8,rfl,hE8⟩:=hJ.f8 p8;have p7:=hJ.q8_7 p8;obtain⟨hs1,hs2,hs3⟩:=hE8;have hbl:=hs3 hl;have hbw:=hJ.w.1 hl;obtain⟨im,him,hz0,hz1,hz2⟩:=info_parts Gz1;have hU:=Tryz.underlying24;refine step_append_lies _ rfl _ _ _ rfl B 47 im _ 3 64 hU him hz0 hz1 hz2 rfl (by omega) (.slice A0 n c0) n xs rfl (own_below hown hbw) ⟨s8,0,none⟩ 1 1 [.string nm, .slice AC lc cC, .slice AD ld cD] rfl rfl (World.news_of_block (fr:=(0,0)) hbl) (by intro u hu;simp at hu;rcases hu with rfl|rfl|rfl<;>rfl) (by omega) (by simp[maxLen];omega) (by omega) (Nat.le_trans hBw hbw.size) W.heap.size rfl ?_;intro gq cap w5 hown5 hgrow5 hat5 hlt5;apply hK;exact { hJ with f8:=fun x=>by obtain⟨s,e1,e2⟩:=hJ.f8 x;exact⟨s,e1,⟨e2.1,Nat.lt_of_lt_of_le e2.2.1 hgrow5.size,tfR⟩⟩,f9:=fun _=>⟨_,rfl,fun h=>⟨W,hbw,hown5,hgrow5⟩⟩,f12:=fun x=>by have e:=hJ.q12_9 x;rw[hl] at e;exact absurd e (by decide),q12_9:=fun _=>rfl,q9_6:=fun _=>p6,q9_7:=fun _=>p7,q9_8:=fun _=>p8,w:=⟨tfR,fun h=>(hJ.w.2 h).trans (Tch.of_grown (own_below hown hbw) hgrow5)⟩ }
  ·
    obtain rfl:=hJ.f1 (Az0 (by simp[haf]));go_simp;apply hK;exact { hJ with f10:=fun _=>rfl,w:=⟨fun h=>hJ.w.1 h,fun h=>hJ.w.2 h⟩ }
  ·
    obtain rfl:=hJ.f10 (Az0 (by simp[haf]));go_simp;apply hK;exact { hJ with f11:=fun _=>rfl,w:=⟨fun h=>hJ.w.1 h,fun h=>hJ.w.2 h⟩ }
  ·
    have p9:listed.getD 9 true=true:=Az0 (by simp[haf]);have p1:listed.getD 1 true=true:=Az0 (by simp[haf]);have p3:listed.getD 3 true=true:=Az0 (by simp[haf]);have p6:listed.getD 6 true=true:=Az0 (by simp[haf]);have p8:listed.getD 8 true=true:=Az0 (by simp[haf]);obtain rfl:=hJ.f11 (Az0 (by simp[haf]));obtain⟨s9,rfl,hE9⟩:=hJ.f9 p9;obtain⟨s8,rfl,hE8⟩:=hJ.f8 p8;obtain⟨W1,hb1,hO,hG⟩:=hE9 hl;obtain⟨AV,cV,rfl⟩:=Az1 hO;have hkk:=hkb.tch (hJ.w.2 hl) (by decide);obtain⟨e0, -,f0, -,el⟩:=hkk.a2;simp at e0;go_simp;apply hK;exact { hJ with f8:=fun x=>by obtain⟨s,e1,e2⟩:=hJ.f8 x;exact⟨s,e1,⟨e2.1,by simpa using e2.2.1,fun h=>(tfR (p9.symm.trans h))⟩⟩,f9:=fun x=>by obtain⟨s,e1,e2⟩:=hJ.f9 x;exact⟨s,e1,tfR⟩,f12:=fun _=>⟨_,W1,W,hb1,hO,hG,rfl⟩,q12_1:=fun _=>p1,q12_3:=fun _=>p3,q12_6:=fun _=>p6,q12_8:=fun _=>p8,q12_9:=fun _=>p9,w:=⟨fun h=>(tfR (p9.symm.trans h)),tfR⟩ }
 case fin=>
  intro listed a W hall hI;obtain⟨y41,y42,y43,y44,y45,y46,y47,y48,y49,y50,y51,y52,hJ,rfl⟩:=hI;exact HQ.out listed W _ _ _ _ _ _ _ _ _ _ _ _ hall hJ
end Go.Proofs.YtdjamdbamkhblacGreatDoor
