/- The two rounds of module.Decode's loops that draw their order. No condition. -/
import Derived.Test.YtdjamdbamkhblacGreatDoorG19
set_option maxHeartbeats 8000000
set_option maxRecDepth 1000000
namespace Go.Proofs.YtdjamdbamkhblacGreatDoor
open Go.RowKit
set_option linter.unusedVariables false
set_option linter.unusedSimpArgs false
theorem Gzd:(Tryz.prog.info? 104).map (fun i=>(i.zero,i.size,i.bytes))=some (some (.agg #[.int .i64 0, .int .i64 0, .int .i64 0, .int .i64 0]),4,32):=by kernel_rfl
theorem Izr:(Tryz.prog.info? 3).map (fun i=>(i.zero,i.size,i.bytes))=some (some (.int .i64 0),1,8):=by kernel_rfl
theorem Ezg (a b:List Ins):Azc (a++b)=Azc a++Azc b:=by simp[Azc]
theorem Ezh (a b:List Int):intCells (a++b)=intCells a++intCells b:=by simp[intCells]
structure DJ (w0 W:World) (gr gm g2:Nat) (cs:Array Value) (st st':Option (List UInt8)) (e e':TypeId) (size size':Nat) (VC VX:Value) (n n':Nat) (xs xs':List Value) (b8 b11 b13:Bool):Prop where
 below:Below w0.heap.size w0 W
 rdr:RdrAt W gr (bif b8 then st' else st)
 res:Blk W g2 47 #[.string ⟨#[]⟩, .slice none 0 0, .slice none 0 0]
 mdx:∃ cm,Blk W gm 47 cm
 md:b13=false→Blk W gm 47 cs
 oc:b11=false→W.ownsRow w0.heap.size e size VC n xs
 ox:W.ownsRow w0.heap.size e' size' VX n' xs'
 gr0:w0.heap.size≤gr
 gm0:w0.heap.size≤gm
 g2m:g2≠gm
 te:e≠119∧e≠47
 te':e'≠119∧e'≠47
 tee:e'≠e
section
variable {w0 W W':World} {gr gm g2:Nat} {cs:Array Value} {st st':Option (List UInt8)} {e e':TypeId} {size size':Nat} {VC VX:Value} {n n':Nat} {xs xs':List Value} {b8 b11 b13:Bool}
theorem RdrAt.blk {w:World} {g:Nat} {st:Option (List UInt8)} (h:RdrAt w g st):∃ cr,Blk w g 119 cr:=by
 cases st with
 | none=>obtain⟨s,h⟩:=h;exact⟨_,h⟩
 | some r=>exact⟨_,h.1⟩
theorem Mz5 {w:World} {B B':Nat} {e e':TypeId} {s s' n n':Nat} {v v':Value} {xs xs':List Value} (h:w.ownsRow B e s v n xs) (h':w.ownsRow B' e' s' v' n' xs') (hne:e≠e'):v.ownBlock=none∨v.ownBlock≠v'.ownBlock:=by
 rcases h.2 with⟨rfl,_⟩|⟨g,cap,cur,rfl,_,hg,_⟩
 ·exact .inl rfl
 ·right
  rcases h'.2 with⟨rfl,_⟩|⟨g',cap',cur',rfl,_,hg',_⟩
  ·simp[Value.ownBlock]
  ·intro e
   simp[Value.ownBlock] at e;subst e;rw[hg] at hg';simp at hg';exact hne hg'.2
theorem DJ.number (h:DJ w0 W gr gm g2 cs st st' e e' size size' VC VX n n' xs xs' false b11 b13) (hR:RdrAt W' gr st') (hg:W.grownBy W' (some gr)):DJ w0 W' gr gm g2 cs st st' e e' size size' VC VX n n' xs xs' true b11 b13:=by
 obtain⟨cr,hcr⟩:=RdrAt.blk h.rdr;obtain⟨cm,hcm⟩:=h.mdx;have n1:gm≠gr:=hcm.ne_ hcr (by decide);have n2:g2≠gr:=h.res.ne_ hcr (by decide);exact⟨h.below.grown hg h.below.size (fun q hq=>by injection hq with hq;rw[←hq];exact h.gr0),hR,h.res.grown hg (by simpa using n2),⟨cm,hcm.grown hg (by simpa using n1)⟩,fun b=>(h.md b).grown hg (by simpa using n1),
  fun b=>(h.oc b).kept hg (.inr (Aza (h.oc b) hcr h.te.1)),h.ox.kept hg (.inr (Aza h.ox hcr h.te'.1)),h.gr0,h.gm0,h.g2m,h.te,h.te',h.tee⟩
theorem DJ.alloc (h:DJ w0 W gr gm g2 cs st st' e e' size size' VC VX n n' xs xs' b8 b11 b13) (o:Obj):DJ w0 (W.alloc o) gr gm g2 cs st st' e e' size size' VC VX n n' xs xs' b8 b11 b13:=by
 obtain⟨cm,hcm⟩:=h.mdx;exact⟨h.below.alloc h.below.size o,h.rdr.grown (World.grownBy_alloc W o none) (by simp),h.res.alloc o,⟨cm,hcm.alloc o⟩,fun b=>(h.md b).alloc o,fun b=>(h.oc b).alloc o,h.ox.alloc o,h.gr0,h.gm0,h.g2m,h.te,h.te',h.tee⟩
theorem DJ.drew (h:DJ w0 W gr gm g2 cs st st' e e' size size' VC VX n n' xs xs' b8 b11 b13):DJ w0 W.drew gr gm g2 cs st st' e e' size size' VC VX n n' xs xs' b8 b11 b13:=by
 obtain⟨cm,hcm⟩:=h.mdx;refine⟨Below.drewN' h.below 1,?_,h.res,⟨cm,hcm⟩,h.md,h.oc,h.ox,h.gr0,h.gm0,h.g2m,h.te,h.te',h.tee⟩;have:=h.rdr;cases hs:(bif b8 then st' else st) with
 | none=>rw[hs] at this;exact this
 | some r=>rw[hs] at this;exact this
theorem DJ.append (h:DJ w0 W gr gm g2 cs st st' e e' size size' VC VX n n' xs xs' b8 false b13) (hg:W.grownBy W' VC.ownBlock):DJ w0 W' gr gm g2 cs st st' e e' size size' VC VX n n' xs xs' b8 true b13:=by
 obtain⟨cr,hcr⟩:=RdrAt.blk h.rdr;obtain⟨cm,hcm⟩:=h.mdx;have ho:=h.oc rfl;have n1:=Aza ho hcr h.te.1;have n2:=Aza ho hcm h.te.2;have n3:=Aza ho h.res h.te.2;exact⟨h.below.grown hg h.below.size (fun q hq=>(ho.lt q hq).1),h.rdr.grown hg (Ne.symm n1),h.res.grown hg (Ne.symm n3),⟨cm,hcm.grown hg (Ne.symm n2)⟩,fun b=>(h.md b).grown hg (Ne.symm n2),fun b=>absurd b (by decide),h.ox.kept hg (Mz5 h.ox ho h.tee),h.gr0,h.gm0,h.g2m,h.te,h.te',h.tee⟩
theorem DJ.store (h:DJ w0 W gr gm g2 cs st st' e e' size size' VC VX n n' xs xs' b8 true b13) (i:Nat) (u:Value):DJ w0 (W.setCell ⟨gm,i,none⟩ u) gr gm g2 cs st st' e e' size size' VC VX n n' xs xs' b8 true true:=by
 obtain⟨cr,hcr⟩:=RdrAt.blk h.rdr;obtain⟨cm,hcm⟩:=h.mdx;have n1:gr≠gm:=hcr.ne_ hcm (by decide);exact⟨h.below.setCell (p:=⟨gm,i,none⟩) h.gm0 u,h.rdr.grown (Bzg W ⟨gm,i,none⟩ u) (by simpa using n1),h.res.far (p:=⟨gm,i,none⟩) h.g2m u,⟨_,hcm.set_ i u⟩,fun b=>absurd b (by decide),fun b=>absurd b (by decide),h.ox.kept (Bzg W ⟨gm,i,none⟩ u) (.inr (Aza h.ox hcm h.te'.2)),h.gr0,h.gm0,h.g2m,h.te,h.te',h.tee⟩
end
theorem Sza (q:Nat) (h:q≤255):bits BinOp.and IntKind.i64 (q:Int) 15=(q:Int) % 16:=by
 have e:=Dzo q 15 (by omega) (by omega);rw[show q &&& 15=q % 16 from Nat.and_two_pow_sub_one_eq_mod q 4] at e;rw[show ((15:Nat):Int)=15 from rfl] at e;rw[e];omega
structure DJ13 (w0:World) (gr gm g2 n nd a1 a2 c1:Nat) (A1:Option Addr) (nm:List UInt8) (L:List Ins) (VD:Value) (xd:List Value) (st:Option (List UInt8)) (t0t t1t t2t t3t t4t t5t t6t t7t t8t t9t t10t t11t t12t t13t:Bool) (W:World) (y55 y56 y57 y58 y59 y60 y61 y62 y63 y64 y65 y66 y67:Value):Prop where
 f0:t0t=true→y55= .pointer (some ⟨gm,1,none⟩)
 f1:t1t=true→y56= .slice A1 n c1
 f2:t2t=true→y57= .int .i64 (a1:Int)
 f3:t3t=true→y58= .int .i64 (a2:Int)
 f4:t4t=true→y59= .int .i64 ((a2:Int) / 16)
 f5:t5t=true→y60= .int .i64 (a2:Int)
 f6:t6t=true→y61= .int .i64 ((a2:Int) % 16)
 f7:t7t=true→y62= .pointer (some ⟨gr,0,none⟩)
 f8:t8t=true→y63= .int .i64 ((numS 2 st).1:Int)
 f9:t9t=true→y64= .agg #[.int .i64 (a1:Int), .int .i64 ((a2:Int) / 16), .int .i64 ((a2:Int) % 16), .int .i64 ((numS 2 st).1:Int)]
 f10:t10t=true→∃ s:Nat,y65= .slice (some ⟨s,0,none⟩) 1 1∧(t11t=false→Blk W s 104 #[.int .i64 (a1:Int), .int .i64 ((a2:Int) / 16), .int .i64 ((a2:Int) % 16), .int .i64 ((numS 2 st).1:Int)])
 f11:t11t=true→∃ s:Value,y66=s∧W.ownsRow w0.heap.size 104 4 s (n+1) (Azc (L++ [(⟨(a1:Nat),(a2 / 16:Nat),(a2 % 16:Nat),((numS 2 st).1:Nat)⟩:Ins)]))
 f12:t12t=true→y67= .pointer (some ⟨gm,1,none⟩)
 f13:t13t=true→∃ V,Blk W gm 47 #[.string (ba nm),V,VD]∧W.ownsRow w0.heap.size 104 4 V (n+1) (Azc (L++ [(⟨(a1:Nat),(a2 / 16:Nat),(a2 % 16:Nat),((numS 2 st).1:Nat)⟩:Ins)]))
 q13_11:t13t=true→t11t=true
 q11_10:t11t=true→t10t=true
 q11_1:t11t=true→t1t=true
 q10_9:t10t=true→t9t=true
 q9_8:t9t=true→t8t=true
 w:DJ w0 W gr gm g2 #[.string (ba nm), .slice A1 n c1,VD] st (numS 2 st).2 104 3 4 1 (.slice A1 n c1) VD n nd (Azc L) xd (t8t) (t11t) (t13t)
noncomputable def Qzy:Code:=((Tryz.f47.body.bind (Czf 13)).getD .skip)
theorem Szi (w0:World) (gr gm g2 n nd a1 a2 c1:Nat) (A1:Option Addr) (nm:List UInt8) (L:List Ins) (VD:Value) (xd:List Value) (st:Option (List UInt8)) {v0 v1 v2 v3 v6 v7 v10 v11 v12 v13 v14 v15 v16 v17 v18 v19 v20 v21 v22 v23 v24 v25 v26 v27 v28 v29 v30 v31 v32 v33 v34 v35 v36 v37 v38 v39 v40 v41 v42 v43 v44 v45 v46 v47 v48 v49 v50 v51 v52 v53 v54 v55 v56 v57 v58 v59 v60 v61 v62 v63 v64 v65 v66 v67 v68 v69 v70 v71 v72 v73 v74 v75 v76 v77 v78 v79 v80 v81 v82 v83 v84 v85 v86 v87 v88 v89 v90 v91 v92 v93 v94 v95 v96 v97 v98 v99 v100 v101 v102 v103 v104 v105 v106 v107 v108 v109 v110 v111 v112 v113 v114 v115 v116 v117 v118 v119 v120:Value} (wr:World) (Q:Exit→Act→World→Prop) (hd:DJ w0 wr gr gm g2 #[.string (ba nm), .slice A1 n c1,VD] st (numS 2 st).2 104 3 4 1 (.slice A1 n c1) VD n nd (Azc L) xd false false false) (hn:n≤300) (ha1:a1≤255) (ha2:a2≤255)
  (hQ:∀ (listed:Array Bool) (W:World) (y55 y56 y57 y58 y59 y60 y61 y62 y63 y64 y65 y66 y67:Value),(∀ i,i<14→listed.getD i true=true)→DJ13 w0 gr gm g2 n nd a1 a2 c1 A1 nm L VD xd st (listed.getD 0 true) (listed.getD 1 true) (listed.getD 2 true) (listed.getD 3 true) (listed.getD 4 true) (listed.getD 5 true) (listed.getD 6 true) (listed.getD 7 true) (listed.getD 8 true) (listed.getD 9 true) (listed.getD 10 true) (listed.getD 11 true) (listed.getD 12 true) (listed.getD 13 true) W y55 y56 y57 y58 y59 y60 y61 y62 y63 y64 y65 y66 y67→Q .normal ⟨#[v0,v1,v2,v3, .pointer (some ⟨gr,0,none⟩), .pointer (some ⟨gm,0,none⟩),v6,v7, .int .i64 (a1:Int), .int .i64 (a2:Int),v10,v11,v12,v13,v14,v15,v16,v17,v18,v19,v20,v21,v22,v23,v24,v25,v26,v27,v28,v29,v30,v31,v32,v33,v34,v35,v36,v37,v38,v39,v40,v41,v42,v43,v44,v45,v46,v47,v48,v49,v50,v51,v52,v53,v54,y55,y56,y57,y58,y59,y60,y61,y62,y63,y64,y65,y66,y67,v68,v69,v70,v71,v72,v73,v74,v75,v76,v77,v78,v79,v80,v81,v82,v83,v84,v85,v86,v87,v88,v89,v90,v91,v92,v93,v94,v95,v96,v97,v98,v99,v100,v101,v102,v103,v104,v105,v106,v107,v108,v109,v110,v111,v112,v113,v114,v115,v116,v117,v118,v119,v120],[]⟩ W):
  Code.wp Tryz.prog Qzy Q ⟨#[v0,v1,v2,v3, .pointer (some ⟨gr,0,none⟩), .pointer (some ⟨gm,0,none⟩),v6,v7, .int .i64 (a1:Int), .int .i64 (a2:Int),v10,v11,v12,v13,v14,v15,v16,v17,v18,v19,v20,v21,v22,v23,v24,v25,v26,v27,v28,v29,v30,v31,v32,v33,v34,v35,v36,v37,v38,v39,v40,v41,v42,v43,v44,v45,v46,v47,v48,v49,v50,v51,v52,v53,v54,v55,v56,v57,v58,v59,v60,v61,v62,v63,v64,v65,v66,v67,v68,v69,v70,v71,v72,v73,v74,v75,v76,v77,v78,v79,v80,v81,v82,v83,v84,v85,v86,v87,v88,v89,v90,v91,v92,v93,v94,v95,v96,v97,v98,v99,v100,v101,v102,v103,v104,v105,v106,v107,v108,v109,v110,v111,v112,v113,v114,v115,v116,v117,v118,v119,v120],[]⟩ wr:=by
 have HQ:=Lib.hid hQ;clear hQ;conv=>arg 2;whnf
 refine Azw (fun listed a W=>∃ y55 y56 y57 y58 y59 y60 y61 y62 y63 y64 y65 y66 y67,DJ13 w0 gr gm g2 n nd a1 a2 c1 A1 nm L VD xd st (listed.getD 0 true) (listed.getD 1 true) (listed.getD 2 true) (listed.getD 3 true) (listed.getD 4 true) (listed.getD 5 true) (listed.getD 6 true) (listed.getD 7 true) (listed.getD 8 true) (listed.getD 9 true) (listed.getD 10 true) (listed.getD 11 true) (listed.getD 12 true) (listed.getD 13 true) W y55 y56 y57 y58 y59 y60 y61 y62 y63 y64 y65 y66 y67∧a=⟨#[v0,v1,v2,v3, .pointer (some ⟨gr,0,none⟩), .pointer (some ⟨gm,0,none⟩),v6,v7, .int .i64 (a1:Int), .int .i64 (a2:Int),v10,v11,v12,v13,v14,v15,v16,v17,v18,v19,v20,v21,v22,v23,v24,v25,v26,v27,v28,v29,v30,v31,v32,v33,v34,v35,v36,v37,v38,v39,v40,v41,v42,v43,v44,v45,v46,v47,v48,v49,v50,v51,v52,v53,v54,y55,y56,y57,y58,y59,y60,y61,y62,y63,y64,y65,y66,y67,v68,v69,v70,v71,v72,v73,v74,v75,v76,v77,v78,v79,v80,v81,v82,v83,v84,v85,v86,v87,v88,v89,v90,v91,v92,v93,v94,v95,v96,v97,v98,v99,v100,v101,v102,v103,v104,v105,v106,v107,v108,v109,v110,v111,v112,v113,v114,v115,v116,v117,v118,v119,v120],[]⟩) (by kernel_rfl) (Fzs (by kernel_rfl)) ?start ?step ?fin
 case start=>
  refine⟨_,_,_,_,_,_,_,_,_,_,_,_,_,?_,rfl⟩;constructor
  all_goals first|exact hd.drew|exact fun _=>rfl|exact fun h=>absurd h (by decide)
 case step=>
  intro i o ho listed a W hl haf hI K hK;obtain⟨y55,y56,y57,y58,y59,y60,y61,y62,y63,y64,y65,y66,y67,hJ,rfl⟩:=hI;have hK:=fun (W':World) z55 z56 z57 z58 z59 z60 z61 z62 z63 z64 z65 z66 z67 h=>hK _ W' ⟨z55,z56,z57,z58,z59,z60,z61,z62,z63,z64,z65,z66,z67,h,rfl⟩
  simp only[Az2] at hK;have hi:i<14:=(Array.getElem?_eq_some_iff.1 ho).1;have h16:i=0∨i=1∨i=2∨i=3∨i=4∨i=5∨i=6∨i=7∨i=8∨i=9∨i=10∨i=11∨i=12∨i=13:=by omega
  have hand:=Sza a2 ha2;have hU:=Tryz.underlying45;obtain⟨i0,hi0,hz0,hz1,hz2⟩:=info_parts Gzd;have hq:=(Bzv 2 st (by omega)).1;have hvi:(a2:Int)≤255:=by omega
  rcases h16 with rfl|rfl|rfl|rfl|rfl|rfl|rfl|rfl|rfl|rfl|rfl|rfl|rfl|rfl
  all_goals
   have ho:=Option.some.inj ho;subst ho
   try simp[Region.binds] at haf
  ·
    go_simp;apply hK;exact { hJ with f0:=fun _=>rfl }
  ·
    obtain rfl:=hJ.f0 (Az0 (by simp[haf]));have h13:listed.getD 13 true=false:=by
     rw[←Bool.not_eq_true];intro e;have e:=hJ.q11_1 (hJ.q13_11 e);rw[hl] at e;cases e
    have m1:=(hJ.w.md h13).cell 1;simp at m1;go_simp;apply hK;exact { hJ with f1:=fun _=>rfl,q11_1:=fun _=>rfl }
  ·
    go_simp;apply hK;exact { hJ with f2:=fun _=>rfl }
  ·
    go_simp;apply hK;exact { hJ with f3:=fun _=>rfl }
  ·
    obtain rfl:=hJ.f3 (Az0 (by simp[haf]));go_simp;apply hK;exact { hJ with f4:=fun _=>rfl }
  ·
    go_simp;apply hK;exact { hJ with f5:=fun _=>rfl }
  ·
    obtain rfl:=hJ.f5 (Az0 (by simp[haf]));go_simp;apply hK;exact { hJ with f6:=fun _=>rfl }
  ·
    go_simp;apply hK;exact { hJ with f7:=fun _=>rfl }
  ·
    obtain rfl:=hJ.f7 (Az0 (by simp[haf]));have h8:=hJ.w;rw[hl] at h8;go_simp;go_at_call 82;refine(Cz9 gr 2 st _ (by omega) h8.rdr).mono ?_;rintro e' w2 ⟨rfl,hR,hg⟩;apply hK;exact { hJ with f8:=fun _=>rfl,f10:=fun x=>by obtain⟨s,e1,e2⟩:=hJ.f10 x;exact⟨s,e1,absurd (hJ.q9_8 (hJ.q10_9 x)) (by rw[hl];decide)⟩,f11:=fun x=>by obtain⟨s,e1,e2⟩:=hJ.f11 x;exact⟨s,e1,absurd (hJ.q9_8 (hJ.q10_9 (hJ.q11_10 x))) (by rw[hl];decide)⟩,f13:=fun x=>absurd (hJ.q9_8 (hJ.q10_9 (hJ.q11_10 (hJ.q13_11 x)))) (by rw[hl];decide),q9_8:=fun _=>rfl,w:=by exact h8.number hR hg }
  ·
    have p8:listed.getD 8 true=true:=Az0 (by simp[haf]);obtain rfl:=hJ.f2 (Az0 (by simp[haf]));obtain rfl:=hJ.f4 (Az0 (by simp[haf]));obtain rfl:=hJ.f6 (Az0 (by simp[haf]));obtain rfl:=hJ.f8 p8;go_simp;apply hK;exact { hJ with f9:=fun _=>rfl,q10_9:=fun _=>rfl,q9_8:=fun _=>p8 }
  ·
    have p9:listed.getD 9 true=true:=Az0 (by simp[haf]);obtain rfl:=hJ.f9 p9;go_simp;apply hK;exact { hJ with f10:=fun _=>⟨_,rfl,fun _=>Blk.new _ _ _⟩,f11:=fun x=>by obtain⟨s,e1,e2⟩:=hJ.f11 x;exact⟨s,e1,absurd (hJ.q11_10 x) (by rw[hl];decide)⟩,f13:=fun x=>absurd (hJ.q11_10 (hJ.q13_11 x)) (by rw[hl];decide),q11_10:=fun _=>rfl,q10_9:=fun _=>p9,w:=by exact hJ.w.alloc _ }
  ·
    have p1:listed.getD 1 true=true:=Az0 (by simp[haf]);have p10:listed.getD 10 true=true:=Az0 (by simp[haf]);obtain rfl:=hJ.f1 p1;obtain⟨s10,rfl,hE10⟩:=hJ.f10 p10;have ho:=hJ.w.oc hl;have hs:=hE10 hl;have hw:=hJ.w;rw[hl] at hw;refine Czu _ (by rfl) (.tmp 56) (.tmp 65) _ (by rfl) w0.heap.size 104 i0 _ 4 32 hU hi0 hz0 hz1 hz2 rfl (by omega) (.slice A1 n c1) n (Azc L) (by rfl) ho _ (some ⟨s10,0,none⟩) 1 1 (Azc [(⟨(a1:Nat),(a2 / 16:Nat),(a2 % 16:Nat),((numS 2 st).1:Nat)⟩:Ins)]) (by rfl) (hs.rd 1 4 (by simp)) (Hzs _) ?len ?byt ?bas ?_
    case len=>(unfold maxLen;omega)
    case byt=>omega
    case bas=>exact hJ.w.below.size
    intro A' c' w' hown hgr _;apply hK;exact { hJ with f10:=fun x=>by obtain⟨s,e1,e2⟩:=hJ.f10 x;exact⟨s,e1,tfR⟩,f11:=fun _=>⟨_,rfl,by rw[Ezg];exact hown⟩,f13:=fun x=>absurd (hJ.q13_11 x) (by rw[hl];decide),q13_11:=fun _=>rfl,q11_10:=fun _=>p10,q11_1:=fun _=>p1,w:=by exact hw.append hgr }
  ·
    go_simp;apply hK;exact { hJ with f12:=fun _=>rfl }
  ·
    have p11:listed.getD 11 true=true:=Az0 (by simp[haf]);obtain⟨s11,rfl,hE11⟩:=hJ.f11 p11;obtain rfl:=hJ.f12 (Az0 (by simp[haf]));have h13:=hJ.w.md hl;obtain⟨-,m1, -,f13, -⟩:=h13.a2;simp at m1;obtain⟨cm,hcm⟩:=hJ.w.mdx;have hw:=hJ.w;rw[p11] at hw;obtain⟨A9,c9,rfl⟩:=Az1 hE11;go_simp;apply hK;exact { hJ with f10:=fun x=>by obtain⟨s,e1,e2⟩:=hJ.f10 x;exact⟨s,e1,fun y=>tfR (p11.symm.trans y)⟩,f11:=fun x=>by obtain⟨s,e1,e2⟩:=hJ.f11 x;exact⟨s,e1,e2.kept (Bzg _ _ _) (.inr (Aza e2 hcm (by decide)))⟩,f13:=fun _=>⟨_,h13.set_ 1 (.slice A9 (n+1) c9),hE11.kept (Bzg _ _ _) (.inr (Aza hE11 hcm (by decide)))⟩,q13_11:=fun _=>p11,w:=by rw[p11];exact hw.store 1 (.slice A9 (n+1) c9) }
 case fin=>
  intro listed a W hall hI;obtain⟨y55,y56,y57,y58,y59,y60,y61,y62,y63,y64,y65,y66,y67,hJ,rfl⟩:=hI;exact HQ.out listed W _ _ _ _ _ _ _ _ _ _ _ _ _ hall hJ
structure DJ17 (w0:World) (gr gm g2 n nc c1:Nat) (A1:Option Addr) (nm:List UInt8) (D:List Int) (VC:Value) (xc:List Value) (st:Option (List UInt8)) (t0t t1t t2t t3t t4t t5t t6t t7t:Bool) (W:World) (y82 y83 y84 y85 y86 y87 y88:Value):Prop where
 f0:t0t=true→y82= .pointer (some ⟨gm,2,none⟩)
 f1:t1t=true→y83= .slice A1 n c1
 f2:t2t=true→y84= .pointer (some ⟨gr,0,none⟩)
 f3:t3t=true→y85= .int .i64 ((numS 2 st).1:Int)
 f4:t4t=true→∃ s:Nat,y86= .slice (some ⟨s,0,none⟩) 1 1∧(t5t=false→Blk W s 3 #[.int .i64 ((numS 2 st).1:Int)])
 f5:t5t=true→∃ s:Value,y87=s∧W.ownsRow w0.heap.size 3 1 s (n+1) (intCells (D++ [((numS 2 st).1:Int)]))
 f6:t6t=true→y88= .pointer (some ⟨gm,2,none⟩)
 f7:t7t=true→∃ V,Blk W gm 47 #[.string (ba nm),VC,V]∧W.ownsRow w0.heap.size 3 1 V (n+1) (intCells (D++ [((numS 2 st).1:Int)]))
 q7_5:t7t=true→t5t=true
 q5_4:t5t=true→t4t=true
 q5_1:t5t=true→t1t=true
 q4_3:t4t=true→t3t=true
 w:DJ w0 W gr gm g2 #[.string (ba nm),VC, .slice A1 n c1] st (numS 2 st).2 3 104 1 4 (.slice A1 n c1) VC n nc (intCells D) xc (t3t) (t5t) (t7t)
noncomputable def Qzz:Code:=((Tryz.f47.body.bind (Czf 17)).getD .skip)
theorem Szj (w0:World) (gr gm g2 n nc c1:Nat) (A1:Option Addr) (nm:List UInt8) (D:List Int) (VC:Value) (xc:List Value) (st:Option (List UInt8)) {v0 v1 v2 v3 v6 v7 v8 v9 v10 v11 v12 v13 v14 v15 v16 v17 v18 v19 v20 v21 v22 v23 v24 v25 v26 v27 v28 v29 v30 v31 v32 v33 v34 v35 v36 v37 v38 v39 v40 v41 v42 v43 v44 v45 v46 v47 v48 v49 v50 v51 v52 v53 v54 v55 v56 v57 v58 v59 v60 v61 v62 v63 v64 v65 v66 v67 v68 v69 v70 v71 v72 v73 v74 v75 v76 v77 v78 v79 v80 v81 v82 v83 v84 v85 v86 v87 v88 v89 v90 v91 v92 v93 v94 v95 v96 v97 v98 v99 v100 v101 v102 v103 v104 v105 v106 v107 v108 v109 v110 v111 v112 v113 v114 v115 v116 v117 v118 v119 v120:Value} (wr:World) (Q:Exit→Act→World→Prop) (hd:DJ w0 wr gr gm g2 #[.string (ba nm),VC, .slice A1 n c1] st (numS 2 st).2 3 104 1 4 (.slice A1 n c1) VC n nc (intCells D) xc false false false) (hn:n≤300)
  (hQ:∀ (listed:Array Bool) (W:World) (y82 y83 y84 y85 y86 y87 y88:Value),(∀ i,i<8→listed.getD i true=true)→DJ17 w0 gr gm g2 n nc c1 A1 nm D VC xc st (listed.getD 0 true) (listed.getD 1 true) (listed.getD 2 true) (listed.getD 3 true) (listed.getD 4 true) (listed.getD 5 true) (listed.getD 6 true) (listed.getD 7 true) W y82 y83 y84 y85 y86 y87 y88→Q .normal ⟨#[v0,v1,v2,v3, .pointer (some ⟨gr,0,none⟩), .pointer (some ⟨gm,0,none⟩),v6,v7,v8,v9,v10,v11,v12,v13,v14,v15,v16,v17,v18,v19,v20,v21,v22,v23,v24,v25,v26,v27,v28,v29,v30,v31,v32,v33,v34,v35,v36,v37,v38,v39,v40,v41,v42,v43,v44,v45,v46,v47,v48,v49,v50,v51,v52,v53,v54,v55,v56,v57,v58,v59,v60,v61,v62,v63,v64,v65,v66,v67,v68,v69,v70,v71,v72,v73,v74,v75,v76,v77,v78,v79,v80,v81,y82,y83,y84,y85,y86,y87,y88,v89,v90,v91,v92,v93,v94,v95,v96,v97,v98,v99,v100,v101,v102,v103,v104,v105,v106,v107,v108,v109,v110,v111,v112,v113,v114,v115,v116,v117,v118,v119,v120],[]⟩ W):
  Code.wp Tryz.prog Qzz Q ⟨#[v0,v1,v2,v3, .pointer (some ⟨gr,0,none⟩), .pointer (some ⟨gm,0,none⟩),v6,v7,v8,v9,v10,v11,v12,v13,v14,v15,v16,v17,v18,v19,v20,v21,v22,v23,v24,v25,v26,v27,v28,v29,v30,v31,v32,v33,v34,v35,v36,v37,v38,v39,v40,v41,v42,v43,v44,v45,v46,v47,v48,v49,v50,v51,v52,v53,v54,v55,v56,v57,v58,v59,v60,v61,v62,v63,v64,v65,v66,v67,v68,v69,v70,v71,v72,v73,v74,v75,v76,v77,v78,v79,v80,v81,v82,v83,v84,v85,v86,v87,v88,v89,v90,v91,v92,v93,v94,v95,v96,v97,v98,v99,v100,v101,v102,v103,v104,v105,v106,v107,v108,v109,v110,v111,v112,v113,v114,v115,v116,v117,v118,v119,v120],[]⟩ wr:=by
 have HQ:=Lib.hid hQ;clear hQ;conv=>arg 2;whnf
 refine Azw (fun listed a W=>∃ y82 y83 y84 y85 y86 y87 y88,DJ17 w0 gr gm g2 n nc c1 A1 nm D VC xc st (listed.getD 0 true) (listed.getD 1 true) (listed.getD 2 true) (listed.getD 3 true) (listed.getD 4 true) (listed.getD 5 true) (listed.getD 6 true) (listed.getD 7 true) W y82 y83 y84 y85 y86 y87 y88∧a=⟨#[v0,v1,v2,v3, .pointer (some ⟨gr,0,none⟩), .pointer (some ⟨gm,0,none⟩),v6,v7,v8,v9,v10,v11,v12,v13,v14,v15,v16,v17,v18,v19,v20,v21,v22,v23,v24,v25,v26,v27,v28,v29,v30,v31,v32,v33,v34,v35,v36,v37,v38,v39,v40,v41,v42,v43,v44,v45,v46,v47,v48,v49,v50,v51,v52,v53,v54,v55,v56,v57,v58,v59,v60,v61,v62,v63,v64,v65,v66,v67,v68,v69,v70,v71,v72,v73,v74,v75,v76,v77,v78,v79,v80,v81,y82,y83,y84,y85,y86,y87,y88,v89,v90,v91,v92,v93,v94,v95,v96,v97,v98,v99,v100,v101,v102,v103,v104,v105,v106,v107,v108,v109,v110,v111,v112,v113,v114,v115,v116,v117,v118,v119,v120],[]⟩) (by kernel_rfl) (Fzs (by kernel_rfl)) ?start ?step ?fin
 case start=>
  refine⟨_,_,_,_,_,_,_,?_,rfl⟩;constructor
  all_goals first|exact hd.drew|exact fun _=>rfl|exact fun h=>absurd h (by decide)
 case step=>
  intro i o ho listed a W hl haf hI K hK;obtain⟨y82,y83,y84,y85,y86,y87,y88,hJ,rfl⟩:=hI;have hK:=fun (W':World) z82 z83 z84 z85 z86 z87 z88 h=>hK _ W' ⟨z82,z83,z84,z85,z86,z87,z88,h,rfl⟩
  simp only[Az2] at hK;have hi:i<8:=(Array.getElem?_eq_some_iff.1 ho).1;have h16:i=0∨i=1∨i=2∨i=3∨i=4∨i=5∨i=6∨i=7:=by omega
  have hU:=Tryz.underlying25;obtain⟨i0,hi0,hz0,hz1,hz2⟩:=info_parts Izr;have hq:=(Bzv 2 st (by omega)).1;rcases h16 with rfl|rfl|rfl|rfl|rfl|rfl|rfl|rfl
  all_goals
   have ho:=Option.some.inj ho;subst ho
   try simp[Region.binds] at haf
  ·
    go_simp;apply hK;exact { hJ with f0:=fun _=>rfl }
  ·
    obtain rfl:=hJ.f0 (Az0 (by simp[haf]));have h13:listed.getD 7 true=false:=by
     rw[←Bool.not_eq_true];intro e;have e:=hJ.q5_1 (hJ.q7_5 e);rw[hl] at e;cases e
    have m1:=(hJ.w.md h13).cell 2;simp at m1;go_simp;apply hK;exact { hJ with f1:=fun _=>rfl,q5_1:=fun _=>rfl }
  ·
    go_simp;apply hK;exact { hJ with f2:=fun _=>rfl }
  ·
    obtain rfl:=hJ.f2 (Az0 (by simp[haf]));have h8:=hJ.w;rw[hl] at h8;go_simp;go_at_call 82;refine(Cz9 gr 2 st _ (by omega) h8.rdr).mono ?_;rintro e' w2 ⟨rfl,hR,hg⟩;apply hK;exact { hJ with f3:=fun _=>rfl,f4:=fun x=>by obtain⟨s,e1,e2⟩:=hJ.f4 x;exact⟨s,e1,absurd (hJ.q4_3 x) (by rw[hl];decide)⟩,f5:=fun x=>by obtain⟨s,e1,e2⟩:=hJ.f5 x;exact⟨s,e1,absurd (hJ.q4_3 (hJ.q5_4 x)) (by rw[hl];decide)⟩,f7:=fun x=>absurd (hJ.q4_3 (hJ.q5_4 (hJ.q7_5 x))) (by rw[hl];decide),q4_3:=fun _=>rfl,w:=by exact h8.number hR hg }
  ·
    have p3:listed.getD 3 true=true:=Az0 (by simp[haf]);obtain rfl:=hJ.f3 p3;go_simp;apply hK;exact { hJ with f4:=fun _=>⟨_,rfl,fun _=>Blk.new _ _ _⟩,f5:=fun x=>by obtain⟨s,e1,e2⟩:=hJ.f5 x;exact⟨s,e1,absurd (hJ.q5_4 x) (by rw[hl];decide)⟩,f7:=fun x=>absurd (hJ.q5_4 (hJ.q7_5 x)) (by rw[hl];decide),q5_4:=fun _=>rfl,q4_3:=fun _=>p3,w:=by exact hJ.w.alloc _ }
  ·
    have p1:listed.getD 1 true=true:=Az0 (by simp[haf]);have p4:listed.getD 4 true=true:=Az0 (by simp[haf]);obtain rfl:=hJ.f1 p1;obtain⟨s4,rfl,hE4⟩:=hJ.f4 p4;have ho:=hJ.w.oc hl;have hs:=hE4 hl;have hw:=hJ.w;rw[hl] at hw;refine Czu _ (by rfl) (.tmp 83) (.tmp 86) _ (by rfl) w0.heap.size 3 i0 _ 1 8 hU hi0 hz0 hz1 hz2 rfl (by omega) (.slice A1 n c1) n (intCells D) (by rfl) ho _ (some ⟨s4,0,none⟩) 1 1 (intCells [((numS 2 st).1:Int)]) (by rfl) (hs.rd 1 1 (by simp)) (Dz3 _) ?len ?byt ?bas ?_
    case len=>(unfold maxLen;omega)
    case byt=>omega
    case bas=>exact hJ.w.below.size
    intro A' c' w' hown hgr _;apply hK;exact { hJ with f4:=fun x=>by obtain⟨s,e1,e2⟩:=hJ.f4 x;exact⟨s,e1,tfR⟩,f5:=fun _=>⟨_,rfl,by rw[Ezh];exact hown⟩,f7:=fun x=>absurd (hJ.q7_5 x) (by rw[hl];decide),q7_5:=fun _=>rfl,q5_4:=fun _=>p4,q5_1:=fun _=>p1,w:=by exact hw.append hgr }
  ·
    go_simp;apply hK;exact { hJ with f6:=fun _=>rfl }
  ·
    have p5:listed.getD 5 true=true:=Az0 (by simp[haf]);obtain⟨s5,rfl,hE5⟩:=hJ.f5 p5;obtain rfl:=hJ.f6 (Az0 (by simp[haf]));have h13:=hJ.w.md hl;obtain⟨-, -,m1, -, -,f13, -⟩:=h13.a3;simp at m1;obtain⟨cm,hcm⟩:=hJ.w.mdx;have hw:=hJ.w;rw[p5] at hw;obtain⟨A9,c9,rfl⟩:=Az1 hE5;go_simp;apply hK;exact { hJ with f4:=fun x=>by obtain⟨s,e1,e2⟩:=hJ.f4 x;exact⟨s,e1,fun y=>tfR (p5.symm.trans y)⟩,f5:=fun x=>by obtain⟨s,e1,e2⟩:=hJ.f5 x;exact⟨s,e1,e2.kept (Bzg _ _ _) (.inr (Aza e2 hcm (by decide)))⟩,f7:=fun _=>⟨_,h13.set_ 2 (.slice A9 (n+1) c9),hE5.kept (Bzg _ _ _) (.inr (Aza hE5 hcm (by decide)))⟩,q7_5:=fun _=>p5,w:=by rw[p5];exact hw.store 2 (.slice A9 (n+1) c9) }
 case fin=>
  intro listed a W hall hI;obtain⟨y82,y83,y84,y85,y86,y87,y88,hJ,rfl⟩:=hI;exact HQ.out listed W _ _ _ _ _ _ _ hall hJ
end Go.Proofs.YtdjamdbamkhblacGreatDoor
