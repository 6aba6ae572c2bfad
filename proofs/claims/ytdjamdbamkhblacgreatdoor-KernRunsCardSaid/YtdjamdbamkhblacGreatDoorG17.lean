/- The drawn regions of write and writtenAt in which a module is asked. No condition. By an AI agent (xwdev.py). The walk of the kernel's write at a device: its bytes are asked of the module one by one. Condition: the listed table, the run's contract (RunC). -/
import Derived.Test.YtdjamdbamkhblacGreatDoorG16
set_option maxHeartbeats 8000000
set_option maxRecDepth 1000000
namespace Go.Proofs.YtdjamdbamkhblacGreatDoor
open Go.RowKit
set_option linter.unusedVariables false
set_option linter.unusedSimpArgs false
structure WDJ (w0:World) (bw g b2 nd u j:Nat) (s:ByteArray) (hj:j<s.size) (PP:Int→Bool→World→Prop) (t0t t1t t2t t3t t4t t5t t6t t7t t8t t9t t10t t11t t12t t13t t14t:Bool) (W:World) (y12 y13 y96 y97 y98 y99 y100 y101 y102 y103 y104 y105 y106 y107 y108:Value):Prop where
 f0:t0t=true→y97= .agg #[.pointer (some ⟨g,0,none⟩)]
 f1:t1t=true→y98= .pointer (some ⟨b2,nd*4,none⟩)
 f2:t2t=true→y99= .pointer (some ⟨b2,nd*4,none⟩)
 f3:t3t=true→y100= .pointer (some ⟨b2,nd*4+3,none⟩)
 f4:t4t=true→y101= .int .i64 (u:Int)
 f5:t5t=true→y102= .string s
 f6:t6t=true→y103= .int .i64 (j:Int)
 f7:t7t=true→y104= .int .u8 (((s[j]'hj).toNat:Nat):Int)
 f8:t8t=true→y105= .int .i64 (((s[j]'hj).toNat:Nat):Int)
 f9:t9t=true→∃ s:Int × Bool,y106= .tuple #[.int .i64 s.1, .bool s.2]∧PP s.1 s.2 W
 f10:t10t=true→∃ s:Int × Bool,y96= .tuple #[.int .i64 s.1, .bool s.2]∧PP s.1 s.2 W
 f11:t11t=true→∃ s:Int × Bool,y107= .int .i64 s.1∧PP s.1 s.2 W
 f12:t12t=true→∃ s:Int × Bool,y108= .bool s.2∧PP s.1 s.2 W
 f13:t13t=true→∃ s:Int × Bool,y12= .int .i64 s.1∧PP s.1 s.2 W
 f14:t14t=true→∃ s:Int × Bool,y13= .bool s.2∧PP s.1 s.2 W
 q9_4:t9t=true→t4t=true
 q9_0:t9t=true→t0t=true
 q10_9:t10t=true→t9t=true
 q11_10:t11t=true→t10t=true
 q12_10:t12t=true→t10t=true
 q13_11:t13t=true→t11t=true
 q14_12:t14t=true→t12t=true
 w:t9t=false→W=w0
noncomputable def Ozj:Code:=((Tryz.f56.body.bind (Czf 17)).getD .skip)
theorem Qz0 (w0:World) (bw g b2 nd u j:Nat) (s:ByteArray) (hj:j<s.size) (PP:Int→Bool→World→Prop) {v0 v1 v4 v5 v6 v7 v8 v9 v12 v13 v14 v15 v16 v17 v18 v19 v20 v21 v22 v23 v24 v25 v26 v27 v28 v29 v30 v31 v32 v33 v34 v35 v36 v37 v38 v39 v40 v41 v42 v43 v44 v45 v46 v47 v48 v49 v50 v51 v52 v53 v54 v55 v56 v57 v58 v59 v60 v61 v62 v63 v64 v65 v66 v67 v68 v69 v70 v71 v72 v73 v74 v75 v76 v77 v78 v79 v80 v81 v82 v83 v84 v85 v86 v87 v88 v89 v90 v91 v92 v93 v94 v95 v96 v97 v98 v99 v100 v101 v102 v103 v104 v105 v106 v107 v108 v109 v110 v111 v112 v113 v114 v115 v116 v117 v118 v119 v120 v121 v122 v123 v124 v125 v126 v127 v128 v129 v130 v131 v132 v133 v134 v135 v136 v137 v138 v139 v140 v141 v142 v143 v144 v145 v146 v147 v148 v149 v150 v151 v152 v153 v154 v155 v156 v157 v158 v159 v160 v161 v162 v163 v164 v165 v166 v167:Value} (wr:World) (Q:Exit→Act→World→Prop) (hlw:bw<w0.heap.size) (hw0:w0.cell? ⟨bw,0,none⟩=some (.pointer (some ⟨g,0,none⟩))) (hlb:b2<w0.heap.size) (hn3:w0.cell? ⟨b2,nd*4+3,none⟩=some (.int .i64 (u:Int))) (hwi:IntKind.i64.wrap ((((s[j]'hj).toNat:Nat)):Int)=(((s[j]'hj).toNat:Nat):Int)) (hwr:wrap64 ((((s[j]'hj).toNat:Nat)):Int)=(((s[j]'hj).toNat:Nat):Int)) (hcall:Calls Tryz.prog 84 #[.agg #[.pointer (some ⟨g,0,none⟩)], .int .i64 (u:Int), .int .i64 (((s[j]'hj).toNat:Nat):Int)] w0 fun e w'=>∃ v b,e= .returned (.tuple #[.int .i64 v, .bool b])∧PP v b w') (hw00:wr.drew=w0)
  (hQ:∀ (listed:Array Bool) (W:World) (y12 y13 y96 y97 y98 y99 y100 y101 y102 y103 y104 y105 y106 y107 y108:Value),(∀ i,i<15→listed.getD i true=true)→WDJ w0 bw g b2 nd u j s hj PP (listed.getD 0 true) (listed.getD 1 true) (listed.getD 2 true) (listed.getD 3 true) (listed.getD 4 true) (listed.getD 5 true) (listed.getD 6 true) (listed.getD 7 true) (listed.getD 8 true) (listed.getD 9 true) (listed.getD 10 true) (listed.getD 11 true) (listed.getD 12 true) (listed.getD 13 true) (listed.getD 14 true) W y12 y13 y96 y97 y98 y99 y100 y101 y102 y103 y104 y105 y106 y107 y108→Q .normal ⟨#[v0,v1, .string s, .pointer (some ⟨bw,0,none⟩),v4,v5,v6,v7,v8,v9, .pointer (some ⟨b2,nd*4,none⟩), .int .i64 (j:Int),y12,y13,v14,v15,v16,v17,v18,v19,v20,v21,v22,v23,v24,v25,v26,v27,v28,v29,v30,v31,v32,v33,v34,v35,v36,v37,v38,v39,v40,v41,v42,v43,v44,v45,v46,v47,v48,v49,v50,v51,v52,v53,v54,v55,v56,v57,v58,v59,v60,v61,v62,v63,v64,v65,v66,v67,v68,v69,v70,v71,v72,v73,v74,v75,v76,v77,v78,v79,v80,v81,v82,v83,v84,v85,v86,v87,v88,v89,v90,v91,v92,v93,v94,v95,y96,y97,y98,y99,y100,y101,y102,y103,y104,y105,y106,y107,y108,v109,v110,v111,v112,v113,v114,v115,v116,v117,v118,v119,v120,v121,v122,v123,v124,v125,v126,v127,v128,v129,v130,v131,v132,v133,v134,v135,v136,v137,v138,v139,v140,v141,v142,v143,v144,v145,v146,v147,v148,v149,v150,v151,v152,v153,v154,v155,v156,v157,v158,v159,v160,v161,v162,v163,v164,v165,v166,v167],[]⟩ W):
  Code.wp Tryz.prog Ozj Q ⟨#[v0,v1, .string s, .pointer (some ⟨bw,0,none⟩),v4,v5,v6,v7,v8,v9, .pointer (some ⟨b2,nd*4,none⟩), .int .i64 (j:Int),v12,v13,v14,v15,v16,v17,v18,v19,v20,v21,v22,v23,v24,v25,v26,v27,v28,v29,v30,v31,v32,v33,v34,v35,v36,v37,v38,v39,v40,v41,v42,v43,v44,v45,v46,v47,v48,v49,v50,v51,v52,v53,v54,v55,v56,v57,v58,v59,v60,v61,v62,v63,v64,v65,v66,v67,v68,v69,v70,v71,v72,v73,v74,v75,v76,v77,v78,v79,v80,v81,v82,v83,v84,v85,v86,v87,v88,v89,v90,v91,v92,v93,v94,v95,v96,v97,v98,v99,v100,v101,v102,v103,v104,v105,v106,v107,v108,v109,v110,v111,v112,v113,v114,v115,v116,v117,v118,v119,v120,v121,v122,v123,v124,v125,v126,v127,v128,v129,v130,v131,v132,v133,v134,v135,v136,v137,v138,v139,v140,v141,v142,v143,v144,v145,v146,v147,v148,v149,v150,v151,v152,v153,v154,v155,v156,v157,v158,v159,v160,v161,v162,v163,v164,v165,v166,v167],[]⟩ wr:=by
 have HQ:=Lib.hid hQ;clear hQ;conv=>arg 2;whnf
 refine Azj (fun listed a W=>∃ y12 y13 y96 y97 y98 y99 y100 y101 y102 y103 y104 y105 y106 y107 y108,WDJ w0 bw g b2 nd u j s hj PP (listed.getD 0 true) (listed.getD 1 true) (listed.getD 2 true) (listed.getD 3 true) (listed.getD 4 true) (listed.getD 5 true) (listed.getD 6 true) (listed.getD 7 true) (listed.getD 8 true) (listed.getD 9 true) (listed.getD 10 true) (listed.getD 11 true) (listed.getD 12 true) (listed.getD 13 true) (listed.getD 14 true) W y12 y13 y96 y97 y98 y99 y100 y101 y102 y103 y104 y105 y106 y107 y108∧a=⟨#[v0,v1, .string s, .pointer (some ⟨bw,0,none⟩),v4,v5,v6,v7,v8,v9, .pointer (some ⟨b2,nd*4,none⟩), .int .i64 (j:Int),y12,y13,v14,v15,v16,v17,v18,v19,v20,v21,v22,v23,v24,v25,v26,v27,v28,v29,v30,v31,v32,v33,v34,v35,v36,v37,v38,v39,v40,v41,v42,v43,v44,v45,v46,v47,v48,v49,v50,v51,v52,v53,v54,v55,v56,v57,v58,v59,v60,v61,v62,v63,v64,v65,v66,v67,v68,v69,v70,v71,v72,v73,v74,v75,v76,v77,v78,v79,v80,v81,v82,v83,v84,v85,v86,v87,v88,v89,v90,v91,v92,v93,v94,v95,y96,y97,y98,y99,y100,y101,y102,y103,y104,y105,y106,y107,y108,v109,v110,v111,v112,v113,v114,v115,v116,v117,v118,v119,v120,v121,v122,v123,v124,v125,v126,v127,v128,v129,v130,v131,v132,v133,v134,v135,v136,v137,v138,v139,v140,v141,v142,v143,v144,v145,v146,v147,v148,v149,v150,v151,v152,v153,v154,v155,v156,v157,v158,v159,v160,v161,v162,v163,v164,v165,v166,v167],[]⟩) (by kernel_rfl) (Czi (by kernel_rfl)) ?start ?step ?fin
 case start=>
  refine⟨_,_,_,_,_,_,_,_,_,_,_,_,_,_,_,?_,rfl⟩;constructor
  all_goals first|exact fun _=>hw00|exact fun _=>rfl|exact fun h=>absurd h (by decide)
 case step=>
  intro i o ho listed a W hl haf hI K hK;obtain⟨y12,y13,y96,y97,y98,y99,y100,y101,y102,y103,y104,y105,y106,y107,y108,hJ,rfl⟩:=hI;have hK:=fun (W':World) z12 z13 z96 z97 z98 z99 z100 z101 z102 z103 z104 z105 z106 z107 z108 h=>hK _ W' ⟨z12,z13,z96,z97,z98,z99,z100,z101,z102,z103,z104,z105,z106,z107,z108,h,rfl⟩
  simp only[Az2] at hK;have hi:i<15:=(Array.getElem?_eq_some_iff.1 ho).1;have h16:i=0∨i=1∨i=2∨i=3∨i=4∨i=5∨i=6∨i=7∨i=8∨i=9∨i=10∨i=11∨i=12∨i=13∨i=14:=by omega
  rcases h16 with rfl|rfl|rfl|rfl|rfl|rfl|rfl|rfl|rfl|rfl|rfl|rfl|rfl|rfl|rfl
  all_goals
   have ho:=Option.some.inj ho;subst ho
   try simp[Region.binds] at haf
  ·
    obtain rfl:W=w0:=hJ.w (by rw[←Bool.not_eq_true];intro e;have:=hJ.q9_0 e;rw[hl] at this;cases this);go_simp;apply hK;exact { hJ with f0:=fun _=>rfl,q9_0:=fun _=>rfl }
  ·
    go_simp;apply hK;exact { hJ with f1:=fun _=>rfl }
  ·
    obtain rfl:=hJ.f1 (Az0 (by simp[haf]));go_simp;apply hK;exact { hJ with f2:=fun _=>rfl }
  ·
    obtain rfl:=hJ.f2 (Az0 (by simp[haf]));go_simp;apply hK;exact { hJ with f3:=fun _=>rfl }
  ·
    obtain rfl:=hJ.f3 (Az0 (by simp[haf]));obtain rfl:W=w0:=hJ.w (by rw[←Bool.not_eq_true];intro e;have:=hJ.q9_4 e;rw[hl] at this;cases this);go_simp;apply hK;exact { hJ with f4:=fun _=>rfl,q9_4:=fun _=>rfl }
  ·
    go_simp;apply hK;exact { hJ with f5:=fun _=>rfl }
  ·
    go_simp;apply hK;exact { hJ with f6:=fun _=>rfl }
  ·
    obtain rfl:=hJ.f5 (Az0 (by simp[haf]));obtain rfl:=hJ.f6 (Az0 (by simp[haf]));have hji:(j:Int)<(s.size:Int):=by omega
    go_simp;apply hK;exact { hJ with f7:=fun _=>rfl }
  ·
    obtain rfl:=hJ.f7 (Az0 (by simp[haf]));go_simp
    try simp only[hwr,hwi]
    apply hK;exact { hJ with f8:=fun _=>rfl }
  ·
    have p0:listed.getD 0 true=true:=Az0 (by simp[haf]);have p4:listed.getD 4 true=true:=Az0 (by simp[haf]);obtain rfl:=hJ.f0 p0;obtain rfl:=hJ.f4 p4;obtain rfl:=hJ.f8 (Az0 (by simp[haf]));obtain rfl:W=w0:=hJ.w hl;go_simp;go_at_call 84;refine hcall.mono ?_;rintro e' w2 ⟨v,b,rfl,hP⟩;apply hK;exact { hJ with f9:=fun _=>⟨(v,b),rfl,hP⟩,f10:=fun x=>by have e:=x;have e:=hJ.q10_9 e;rw[hl] at e;exact absurd e (by decide),f11:=fun x=>by have e:=x;have e:=hJ.q11_10 e;have e:=hJ.q10_9 e;rw[hl] at e;exact absurd e (by decide),f12:=fun x=>by have e:=x;have e:=hJ.q12_10 e;have e:=hJ.q10_9 e;rw[hl] at e;exact absurd e (by decide),f13:=fun x=>by have e:=x;have e:=hJ.q13_11 e;have e:=hJ.q11_10 e;have e:=hJ.q10_9 e;rw[hl] at e;exact absurd e (by decide),f14:=fun x=>by have e:=x;have e:=hJ.q14_12 e;have e:=hJ.q12_10 e;have e:=hJ.q10_9 e;rw[hl] at e;exact absurd e (by decide),q9_4:=fun _=>p4,q9_0:=fun _=>p0,q10_9:=fun _=>rfl,w:=tfR }
  ·
    have p9:listed.getD 9 true=true:=Az0 (by simp[haf]);obtain⟨s9,rfl,hE9⟩:=hJ.f9 p9;go_simp;apply hK;exact { hJ with f10:=fun _=>⟨s9,rfl,hE9⟩,q10_9:=fun _=>p9,q11_10:=fun _=>rfl,q12_10:=fun _=>rfl }
  ·
    have p10:listed.getD 10 true=true:=Az0 (by simp[haf]);obtain⟨s10,rfl,hE10⟩:=hJ.f10 p10;go_simp;apply hK;exact { hJ with f11:=fun _=>⟨s10,rfl,hE10⟩,q11_10:=fun _=>p10,q13_11:=fun _=>rfl }
  ·
    have p10:listed.getD 10 true=true:=Az0 (by simp[haf]);obtain⟨s10,rfl,hE10⟩:=hJ.f10 p10;go_simp;apply hK;exact { hJ with f12:=fun _=>⟨s10,rfl,hE10⟩,q12_10:=fun _=>p10,q14_12:=fun _=>rfl }
  ·
    have p11:listed.getD 11 true=true:=Az0 (by simp[haf]);obtain⟨s11,rfl,hE11⟩:=hJ.f11 p11;go_simp;apply hK;exact { hJ with f13:=fun _=>⟨s11,rfl,hE11⟩,q13_11:=fun _=>p11 }
  ·
    have p12:listed.getD 12 true=true:=Az0 (by simp[haf]);obtain⟨s12,rfl,hE12⟩:=hJ.f12 p12;go_simp;apply hK;exact { hJ with f14:=fun _=>⟨s12,rfl,hE12⟩,q14_12:=fun _=>p12 }
 case fin=>
  intro listed a W hall hI;obtain⟨y12,y13,y96,y97,y98,y99,y100,y101,y102,y103,y104,y105,y106,y107,y108,hJ,rfl⟩:=hI;exact HQ.out listed W _ _ _ _ _ _ _ _ _ _ _ _ _ _ _ hall hJ
structure WrDJ (w0:World) (g bn u j:Nat) (s:ByteArray) (hj:j<s.size) (PP:Int→Bool→World→Prop) (t0t t1t t2t t3t t4t t5t t6t t7t t8t t9t t10t t11t t12t:Bool) (W:World) (y13 y14 y105 y106 y107 y108 y109 y110 y111 y112 y113 y114 y115:Value):Prop where
 f0:t0t=true→y106= .pointer (some ⟨g,0,none⟩)
 f1:t1t=true→y107= .pointer (some ⟨bn,3,none⟩)
 f2:t2t=true→y108= .int .i64 (u:Int)
 f3:t3t=true→y109= .string s
 f4:t4t=true→y110= .int .i64 (j:Int)
 f5:t5t=true→y111= .int .u8 (((s[j]'hj).toNat:Nat):Int)
 f6:t6t=true→y112= .int .i64 (((s[j]'hj).toNat:Nat):Int)
 f7:t7t=true→∃ s:Int × Bool,y113= .tuple #[.int .i64 s.1, .bool s.2]∧PP s.1 s.2 W
 f8:t8t=true→∃ s:Int × Bool,y105= .tuple #[.int .i64 s.1, .bool s.2]∧PP s.1 s.2 W
 f9:t9t=true→∃ s:Int × Bool,y114= .int .i64 s.1∧PP s.1 s.2 W
 f10:t10t=true→∃ s:Int × Bool,y115= .bool s.2∧PP s.1 s.2 W
 f11:t11t=true→∃ s:Int × Bool,y13= .int .i64 s.1∧PP s.1 s.2 W
 f12:t12t=true→∃ s:Int × Bool,y14= .bool s.2∧PP s.1 s.2 W
 q7_2:t7t=true→t2t=true
 q8_7:t8t=true→t7t=true
 q9_8:t9t=true→t8t=true
 q10_8:t10t=true→t8t=true
 q11_9:t11t=true→t9t=true
 q12_10:t12t=true→t10t=true
 w:t7t=false→W=w0
noncomputable def Kzc:Code:=((Tryz.f68.body.bind (Czf 21)).getD .skip)
theorem Mzj (w0:World) (g bn u j:Nat) (s:ByteArray) (hj:j<s.size) (PP:Int→Bool→World→Prop) {v1 v2 v4 v5 v6 v7 v8 v9 v10 v13 v14 v15 v16 v17 v18 v19 v20 v21 v22 v23 v24 v25 v26 v27 v28 v29 v30 v31 v32 v33 v34 v35 v36 v37 v38 v39 v40 v41 v42 v43 v44 v45 v46 v47 v48 v49 v50 v51 v52 v53 v54 v55 v56 v57 v58 v59 v60 v61 v62 v63 v64 v65 v66 v67 v68 v69 v70 v71 v72 v73 v74 v75 v76 v77 v78 v79 v80 v81 v82 v83 v84 v85 v86 v87 v88 v89 v90 v91 v92 v93 v94 v95 v96 v97 v98 v99 v100 v101 v102 v103 v104 v105 v106 v107 v108 v109 v110 v111 v112 v113 v114 v115 v116 v117 v118 v119 v120 v121 v122 v123 v124 v125 v126 v127 v128 v129 v130 v131 v132 v133 v134 v135 v136 v137 v138 v139 v140 v141 v142 v143 v144 v145 v146 v147 v148 v149 v150 v151 v152 v153 v154 v155 v156 v157 v158 v159 v160 v161 v162 v163 v164 v165 v166 v167 v168 v169 v170 v171 v172 v173 v174 v175 v176 v177 v178 v179 v180 v181 v182 v183 v184 v185 v186 v187 v188 v189 v190 v191 v192 v193 v194 v195 v196 v197 v198 v199 v200 v201 v202 v203:Value} (wr:World) (Q:Exit→Act→World→Prop) (hlb:bn<w0.heap.size) (hn3:w0.cell? ⟨bn,3,none⟩=some (.int .i64 (u:Int))) (hwi:IntKind.i64.wrap ((((s[j]'hj).toNat:Nat)):Int)=(((s[j]'hj).toNat:Nat):Int)) (hwr:wrap64 ((((s[j]'hj).toNat:Nat)):Int)=(((s[j]'hj).toNat:Nat):Int)) (hcall:Calls Tryz.prog 87 #[.pointer (some ⟨g,0,none⟩), .int .i64 (u:Int), .int .i64 (((s[j]'hj).toNat:Nat):Int)] w0 fun e w'=>∃ v b,e= .returned (.tuple #[.int .i64 v, .bool b])∧PP v b w') (hw00:wr.drew=w0)
  (hQ:∀ (listed:Array Bool) (W:World) (y13 y14 y105 y106 y107 y108 y109 y110 y111 y112 y113 y114 y115:Value),(∀ i,i<13→listed.getD i true=true)→WrDJ w0 g bn u j s hj PP (listed.getD 0 true) (listed.getD 1 true) (listed.getD 2 true) (listed.getD 3 true) (listed.getD 4 true) (listed.getD 5 true) (listed.getD 6 true) (listed.getD 7 true) (listed.getD 8 true) (listed.getD 9 true) (listed.getD 10 true) (listed.getD 11 true) (listed.getD 12 true) W y13 y14 y105 y106 y107 y108 y109 y110 y111 y112 y113 y114 y115→Q .normal ⟨#[.pointer (some ⟨g,0,none⟩),v1,v2, .string s,v4,v5,v6,v7,v8,v9,v10, .pointer (some ⟨bn,0,none⟩), .int .i64 (j:Int),y13,y14,v15,v16,v17,v18,v19,v20,v21,v22,v23,v24,v25,v26,v27,v28,v29,v30,v31,v32,v33,v34,v35,v36,v37,v38,v39,v40,v41,v42,v43,v44,v45,v46,v47,v48,v49,v50,v51,v52,v53,v54,v55,v56,v57,v58,v59,v60,v61,v62,v63,v64,v65,v66,v67,v68,v69,v70,v71,v72,v73,v74,v75,v76,v77,v78,v79,v80,v81,v82,v83,v84,v85,v86,v87,v88,v89,v90,v91,v92,v93,v94,v95,v96,v97,v98,v99,v100,v101,v102,v103,v104,y105,y106,y107,y108,y109,y110,y111,y112,y113,y114,y115,v116,v117,v118,v119,v120,v121,v122,v123,v124,v125,v126,v127,v128,v129,v130,v131,v132,v133,v134,v135,v136,v137,v138,v139,v140,v141,v142,v143,v144,v145,v146,v147,v148,v149,v150,v151,v152,v153,v154,v155,v156,v157,v158,v159,v160,v161,v162,v163,v164,v165,v166,v167,v168,v169,v170,v171,v172,v173,v174,v175,v176,v177,v178,v179,v180,v181,v182,v183,v184,v185,v186,v187,v188,v189,v190,v191,v192,v193,v194,v195,v196,v197,v198,v199,v200,v201,v202,v203],[]⟩ W):
  Code.wp Tryz.prog Kzc Q ⟨#[.pointer (some ⟨g,0,none⟩),v1,v2, .string s,v4,v5,v6,v7,v8,v9,v10, .pointer (some ⟨bn,0,none⟩), .int .i64 (j:Int),v13,v14,v15,v16,v17,v18,v19,v20,v21,v22,v23,v24,v25,v26,v27,v28,v29,v30,v31,v32,v33,v34,v35,v36,v37,v38,v39,v40,v41,v42,v43,v44,v45,v46,v47,v48,v49,v50,v51,v52,v53,v54,v55,v56,v57,v58,v59,v60,v61,v62,v63,v64,v65,v66,v67,v68,v69,v70,v71,v72,v73,v74,v75,v76,v77,v78,v79,v80,v81,v82,v83,v84,v85,v86,v87,v88,v89,v90,v91,v92,v93,v94,v95,v96,v97,v98,v99,v100,v101,v102,v103,v104,v105,v106,v107,v108,v109,v110,v111,v112,v113,v114,v115,v116,v117,v118,v119,v120,v121,v122,v123,v124,v125,v126,v127,v128,v129,v130,v131,v132,v133,v134,v135,v136,v137,v138,v139,v140,v141,v142,v143,v144,v145,v146,v147,v148,v149,v150,v151,v152,v153,v154,v155,v156,v157,v158,v159,v160,v161,v162,v163,v164,v165,v166,v167,v168,v169,v170,v171,v172,v173,v174,v175,v176,v177,v178,v179,v180,v181,v182,v183,v184,v185,v186,v187,v188,v189,v190,v191,v192,v193,v194,v195,v196,v197,v198,v199,v200,v201,v202,v203],[]⟩ wr:=by
 have HQ:=Lib.hid hQ;clear hQ;conv=>arg 2;whnf
 refine Azj (fun listed a W=>∃ y13 y14 y105 y106 y107 y108 y109 y110 y111 y112 y113 y114 y115,WrDJ w0 g bn u j s hj PP (listed.getD 0 true) (listed.getD 1 true) (listed.getD 2 true) (listed.getD 3 true) (listed.getD 4 true) (listed.getD 5 true) (listed.getD 6 true) (listed.getD 7 true) (listed.getD 8 true) (listed.getD 9 true) (listed.getD 10 true) (listed.getD 11 true) (listed.getD 12 true) W y13 y14 y105 y106 y107 y108 y109 y110 y111 y112 y113 y114 y115∧a=⟨#[.pointer (some ⟨g,0,none⟩),v1,v2, .string s,v4,v5,v6,v7,v8,v9,v10, .pointer (some ⟨bn,0,none⟩), .int .i64 (j:Int),y13,y14,v15,v16,v17,v18,v19,v20,v21,v22,v23,v24,v25,v26,v27,v28,v29,v30,v31,v32,v33,v34,v35,v36,v37,v38,v39,v40,v41,v42,v43,v44,v45,v46,v47,v48,v49,v50,v51,v52,v53,v54,v55,v56,v57,v58,v59,v60,v61,v62,v63,v64,v65,v66,v67,v68,v69,v70,v71,v72,v73,v74,v75,v76,v77,v78,v79,v80,v81,v82,v83,v84,v85,v86,v87,v88,v89,v90,v91,v92,v93,v94,v95,v96,v97,v98,v99,v100,v101,v102,v103,v104,y105,y106,y107,y108,y109,y110,y111,y112,y113,y114,y115,v116,v117,v118,v119,v120,v121,v122,v123,v124,v125,v126,v127,v128,v129,v130,v131,v132,v133,v134,v135,v136,v137,v138,v139,v140,v141,v142,v143,v144,v145,v146,v147,v148,v149,v150,v151,v152,v153,v154,v155,v156,v157,v158,v159,v160,v161,v162,v163,v164,v165,v166,v167,v168,v169,v170,v171,v172,v173,v174,v175,v176,v177,v178,v179,v180,v181,v182,v183,v184,v185,v186,v187,v188,v189,v190,v191,v192,v193,v194,v195,v196,v197,v198,v199,v200,v201,v202,v203],[]⟩) (by kernel_rfl) (Czi (by kernel_rfl)) ?start ?step ?fin
 case start=>
  refine⟨_,_,_,_,_,_,_,_,_,_,_,_,_,?_,rfl⟩;constructor
  all_goals first|exact fun _=>hw00|exact fun _=>rfl|exact fun h=>absurd h (by decide)
 case step=>
  intro i o ho listed a W hl haf hI K hK;obtain⟨y13,y14,y105,y106,y107,y108,y109,y110,y111,y112,y113,y114,y115,hJ,rfl⟩:=hI;have hK:=fun (W':World) z13 z14 z105 z106 z107 z108 z109 z110 z111 z112 z113 z114 z115 h=>hK _ W' ⟨z13,z14,z105,z106,z107,z108,z109,z110,z111,z112,z113,z114,z115,h,rfl⟩
  simp only[Az2] at hK;have hi:i<13:=(Array.getElem?_eq_some_iff.1 ho).1;have h16:i=0∨i=1∨i=2∨i=3∨i=4∨i=5∨i=6∨i=7∨i=8∨i=9∨i=10∨i=11∨i=12:=by omega
  rcases h16 with rfl|rfl|rfl|rfl|rfl|rfl|rfl|rfl|rfl|rfl|rfl|rfl|rfl
  all_goals
   have ho:=Option.some.inj ho;subst ho
   try simp[Region.binds] at haf
  ·
    go_simp;apply hK;exact { hJ with f0:=fun _=>rfl }
  ·
    go_simp;apply hK;exact { hJ with f1:=fun _=>rfl }
  ·
    obtain rfl:=hJ.f1 (Az0 (by simp[haf]));obtain rfl:W=w0:=hJ.w (by rw[←Bool.not_eq_true];intro e;have:=hJ.q7_2 e;rw[hl] at this;cases this);go_simp;apply hK;exact { hJ with f2:=fun _=>rfl,q7_2:=fun _=>rfl }
  ·
    go_simp;apply hK;exact { hJ with f3:=fun _=>rfl }
  ·
    go_simp;apply hK;exact { hJ with f4:=fun _=>rfl }
  ·
    obtain rfl:=hJ.f3 (Az0 (by simp[haf]));obtain rfl:=hJ.f4 (Az0 (by simp[haf]));have hji:(j:Int)<(s.size:Int):=by omega
    go_simp;apply hK;exact { hJ with f5:=fun _=>rfl }
  ·
    obtain rfl:=hJ.f5 (Az0 (by simp[haf]));go_simp
    try simp only[hwr,hwi]
    apply hK;exact { hJ with f6:=fun _=>rfl }
  ·
    have p2:listed.getD 2 true=true:=Az0 (by simp[haf]);obtain rfl:=hJ.f0 (Az0 (by simp[haf]));obtain rfl:=hJ.f2 p2;obtain rfl:=hJ.f6 (Az0 (by simp[haf]));obtain rfl:W=w0:=hJ.w hl;go_simp;go_at_call 87;refine hcall.mono ?_;rintro e' w2 ⟨v,b,rfl,hP⟩;apply hK;exact { hJ with f7:=fun _=>⟨(v,b),rfl,hP⟩,f8:=fun x=>by have e:=x;have e:=hJ.q8_7 e;rw[hl] at e;exact absurd e (by decide),f9:=fun x=>by have e:=x;have e:=hJ.q9_8 e;have e:=hJ.q8_7 e;rw[hl] at e;exact absurd e (by decide),f10:=fun x=>by have e:=x;have e:=hJ.q10_8 e;have e:=hJ.q8_7 e;rw[hl] at e;exact absurd e (by decide),f11:=fun x=>by have e:=x;have e:=hJ.q11_9 e;have e:=hJ.q9_8 e;have e:=hJ.q8_7 e;rw[hl] at e;exact absurd e (by decide),f12:=fun x=>by have e:=x;have e:=hJ.q12_10 e;have e:=hJ.q10_8 e;have e:=hJ.q8_7 e;rw[hl] at e;exact absurd e (by decide),q7_2:=fun _=>p2,q8_7:=fun _=>rfl,w:=tfR }
  ·
    have p7:listed.getD 7 true=true:=Az0 (by simp[haf]);obtain⟨s7,rfl,hE7⟩:=hJ.f7 p7;go_simp;apply hK;exact { hJ with f8:=fun _=>⟨s7,rfl,hE7⟩,q8_7:=fun _=>p7,q9_8:=fun _=>rfl,q10_8:=fun _=>rfl }
  ·
    have p8:listed.getD 8 true=true:=Az0 (by simp[haf]);obtain⟨s8,rfl,hE8⟩:=hJ.f8 p8;go_simp;apply hK;exact { hJ with f9:=fun _=>⟨s8,rfl,hE8⟩,q9_8:=fun _=>p8,q11_9:=fun _=>rfl }
  ·
    have p8:listed.getD 8 true=true:=Az0 (by simp[haf]);obtain⟨s8,rfl,hE8⟩:=hJ.f8 p8;go_simp;apply hK;exact { hJ with f10:=fun _=>⟨s8,rfl,hE8⟩,q10_8:=fun _=>p8,q12_10:=fun _=>rfl }
  ·
    have p9:listed.getD 9 true=true:=Az0 (by simp[haf]);obtain⟨s9,rfl,hE9⟩:=hJ.f9 p9;go_simp;apply hK;exact { hJ with f11:=fun _=>⟨s9,rfl,hE9⟩,q11_9:=fun _=>p9 }
  ·
    have p10:listed.getD 10 true=true:=Az0 (by simp[haf]);obtain⟨s10,rfl,hE10⟩:=hJ.f10 p10;go_simp;apply hK;exact { hJ with f12:=fun _=>⟨s10,rfl,hE10⟩,q12_10:=fun _=>p10 }
 case fin=>
  intro listed a W hall hI;obtain⟨y13,y14,y105,y106,y107,y108,y109,y110,y111,y112,y113,y114,y115,hJ,rfl⟩:=hI;exact HQ.out listed W _ _ _ _ _ _ _ _ _ _ _ _ _ hall hJ
attribute [local go_sem] After.cell
theorem wrap_small {n:Nat} (h:n≤65535):IntKind.i64.wrap (n:Int)=(n:Int):=Go.IntWalk.i64_in _ (by omega)
theorem wrap64_small {n:Nat} (h:n≤65535):wrap64 (n:Int)=(n:Int):=by unfold wrap64;omega
theorem Gzu (c:UInt8):c.toNat≤65535:=by have:=Tzk c;omega
theorem drop_byte (s:ByteArray) (j:Nat) (hj:j<s.size):s.data.toList.drop j=s[j]::s.data.toList.drop (j+1):=by
 rw[List.drop_eq_getElem_cons (by simpa using hj)];rfl
theorem Gz7 {k:Krn} {u:Nat} {c:UInt8} {r:List UInt8} (h:askK k u c.toNat=none):Bzl k u (c::r)=(0,k):=by
 unfold Bzl;rw[h]
theorem Gz8 {k k':Krn} {u v:Nat} {c:UInt8} {r:List UInt8} (h:askK k u c.toNat=some (v,k')):Bzl k u (c::r)=((Bzl k' u r).1+1,(Bzl k' u r).2):=by
 conv=>lhs;unfold Bzl
 rw[h]
section
variable {B g:Nat} {a:KA} {k:Krn} {ms:List (Value × Value)} {es:List Value}
structure DevS (B:Nat) (w wr:World) (g:Nat) (a:KA) (k:Krn) (ms:List (Value × Value)) (es:List Value) (u:Nat) (l:List UInt8) (j:Nat) (a':KA) (k':Krn):Prop where
 ks:KS B wr g a' k' ms es
 ok:KOk k'
 eq:∃ m,k'= { k with mem:=m }
 a2:a'.a2=a.a2
 fr:Fr B w wr
 all:Bzl k u l=((Bzl k' u (l.drop j)).1+j,(Bzl k' u (l.drop j)).2)
def DevR (B:Nat) (w:World) (g bw:Nat) (a:KA) (k:Krn) (ms:List (Value × Value)) (es:List Value) (u n:Nat) (l:List UInt8) (i:Value) (wr:World):Prop:=
 Cnt n i fun j=>∃ a' k',DevS B w wr g a k ms es u l j a' k'∧Tab wr∧Blk wr bw 59 #[.pointer (some ⟨g,0,none⟩)]
theorem Ozk (HR:RunC 96) {p i be c:Nat} (s:ByteArray) (w:World) (h:KS B w g a k ms es) (hk:KOk k) (ht:Tab w) (hgB:0<B) (hp:p<k.procs.length) (hp':p<es.length) (he:es[p]= .slice (some ⟨be,0,none⟩) k.procs[p].ends.length c) (hi:i<k.procs[p].ends.length)
  (h0:k.procs[p].ends[i].kind≠0) (h2:k.procs[p].ends[i].kind≠2) (h3:k.procs[p].ends[i].kind≠3) (hd:(k.nodes.getD k.procs[p].ends[i].node.toNat default).kind=2) (hem:empS s=false) (h100:s.size≤100):
  Calls Tryz.prog 56 #[.agg #[.pointer (some ⟨g,0,none⟩)], .pointer (some ⟨be,i*3,none⟩), .string s] w (WritePost B w g ms es (Azh k p i s)):=by
 have HRR:=Lib.hid HR;clear HR;have HO:Hid (∀ W:World,Below w.heap.size w W→be<W.heap.size∧W.cell? ⟨be,i*3,none⟩=some (.int .i64 k.procs[p].ends[i].kind)∧W.cell? ⟨be,i*3+1,none⟩=some (.int .i64 k.procs[p].ends[i].node)∧W.cell? ⟨be,i*3+2,none⟩=some (.int .i64 k.procs[p].ends[i].pos)):=fun W hW=>(h.below hW).opn hp hp' he hi
 have HEO:endOk k k.procs[p].ends[i]=true:=by
  have:=Cz6 hk (p:=p) (i:=i) (by have:=hk.l4;omega);rw[Az3 hp,Az3 hi] at this;exact this
 have HUN:(k.procs.getD p default).ends.getD i default=k.procs[p].ends[i]:=by
  rw[Az3 hp,Az3 hi]
 obtain⟨x,hx⟩:∃ x,x=k.procs[p].ends[i]:=⟨_,rfl⟩;rw[←hx] at HO HEO HUN h0 h2 h3 hd;obtain⟨_,no0,no8,nk,p0,p1⟩:=Dzd HEO h0 h2 h3;obtain⟨nd,hnd⟩:∃ nd:Nat,x.node=(nd:Int):=⟨x.node.toNat,by omega⟩;have l2:=hk.l2;have hnl:nd<k.nodes.length:=by omega
 have hgd:k.nodes.getD x.node.toNat default=k.nodes[nd]:=by rw[hnd,Int.toNat_natCast,Az3 hnl]
 have hno:Bz6 k.mods.length k.nodes[nd]=true:=by
  have:=Ezl hk (i:=nd) (by omega)
  rwa [Az3 hnl] at this
 rw[hgd] at hd;obtain⟨y,hy⟩:∃ y,y=k.nodes[nd]:=⟨_,rfl⟩;rw[←hy] at hd hno;obtain⟨u0,u1,_⟩:=Dzs hno hd;obtain⟨u,hu⟩:∃ u:Nat,y.unit=(u:Int):=⟨y.unit.toNat,by omega⟩;have HRK:Hid (Azh k p i s=if (Bzl k u s.data.toList).1=0 then ((Bzl k u s.data.toList).2,ansE 14) else ((Bzl k u s.data.toList).2,ansN (Bzl k u s.data.toList).1)):=by
  show _=_;unfold Azh;simp only;rw[HUN,if_neg (fun h=>by
   rcases h with h|h
   ·rw[hem] at h;cases h
   ·omega),if_neg h3,hgd, ←hy,if_pos hd,hu,Int.toNat_natCast]
 have hum:u<k.mods.length:=by omega
 have hl0:s.toList≠ []:=by rw[Bz5] at hem;simpa using hem
 have hl1:s.toList.isEmpty=false:=by rw[List.isEmpty_eq_false_iff];exact hl0
 have hs0:1≤s.size:=by
  have h1:(s.size == 0)=false:=hem;have:=beq_eq_false_iff_ne.1 h1;omega
 have q1:decide ((100:Int)<(s.size:Int))=false:=by simp;omega
 have q2:¬ (100:Int)<(s.size:Int):=by omega
 have q3:(x.kind == 3)=false:=by rw[beq_eq_false_iff_ne];exact h3
 have HB:=Lib.hid (Az6 w (.cells #[.pointer (some ⟨g,0,none⟩)] 59));have HX:=Lib.hid (Blk.new w 59 #[.pointer (some ⟨g,0,none⟩)]);have H0:=Lib.hid h;have HK:=Lib.hid hk;have HT:=Lib.hid ht;obtain⟨b2,ha2,_,hb2⟩:=Azf h.cp.nodes (by omega);have HA2:=Lib.hid ha2
 -- the node, wherever the kernel's rows lie as they lay
 have HNOD:Hid (∀ (W:World) (a':KA) (m:List Int),KS B W g a' { k with mem:=m } ms es→a'.a2=a.a2→b2<W.heap.size∧W.cell? ⟨b2,nd*4+1,none⟩=some (.int .i64 2)∧W.cell? ⟨b2,nd*4+3,none⟩=some (.int .i64 (u:Int))):=fun W a' m hK he2=>by
  obtain⟨b,o,hb,hlt,hc⟩:=hK.krn.nodes (by show 0<k.nodes.length;omega);rw[he2,ha2] at hb;cases hb
  obtain⟨e0,e1,e2,e3⟩:=hc nd hnl;rw[Nat.zero_add] at e1 e3;refine⟨hlt,e1.trans ?_,e3.trans ?_⟩
  ·show some (Value.int .i64 k.nodes[nd].kind)=_
   rw[←hy,hd]
  ·show some (Value.int .i64 k.nodes[nd].unit)=_
   rw[←hy,hu]
 have HPI:=Lib.hid (And.intro hnd hnl);have nl8:(nd:Int)<8:=by omega
 have HL2:=Lib.hid l2;have hum8:u<8:=by have:=hk.l0;omega
 clear h hk ht hx h2 h3 hnd hgd hno hd hu hy ha2 hb2 hem HEO HUN l2 nk;obtain⟨z0,z1,z2,z3⟩:=HO.out _ HB.out;rw[HPI.out.1] at z2;have hK1:=H0.out.below HB.out;obtain⟨y0,y1,y3⟩:=HNOD.out _ a k.mem hK1 rfl;obtain⟨c0,c1,c2,c3,c4⟩:=hK1.c5;rw[HL2.out,HA2.out] at c2;have gl:=hK1.blk.lt;have xl:=HX.out.lt;clear hK1;go_enter Tryz.func56,Tryz.ntmps56;go_upto_region 12 with fail
 generalize w.alloc (.cells #[.pointer (some ⟨g,0,none⟩)] 59)=W0 at*;have x0:=HX.out.cell 0;simp at x0;go_quiet (fail);have hWq:=Below.drewN' (Below.refl W0.heap.size W0) nq;have HB1:=Lib.hid (HB.out.trans (hWq.mono HB.out.size));have HX1:=Lib.hid (HX.out.drewN nq);have HK1:=Lib.hid (H0.out.below HB1.out);have HF1:=Lib.hid (Fr.low HB1.out (Nat.le_of_lt H0.out.lt));clear hWq z0 z1 z2 z3 y0 y1 y3 c0 c1 c2 c3 c4 gl x0 xl;generalize W0.drewN nq=W1 at*;obtain⟨y0,y1,y3⟩:=HNOD.out W1 a k.mem HK1.out rfl;go_wp2;clear y0 y1 y3;go_loopw [93] (fun i wr=>DevR B w g w.heap.size a k ms es u s.size s.data.toList i wr) (fun i _=>s.size - (intOf i).toNat)
 case atStart=>exact⟨0,Nat.zero_le _,rfl,a,k,⟨HK1.out,HK.out,⟨k.mem,rfl⟩,rfl,HF1.out,by simp⟩,HT.out.below HB1.out,HX1.out⟩
 case round=>
  obtain⟨j,hj,rfl,a',k',hS,hT,hX⟩:=hrel;obtain⟨m,rfl⟩:=hS.eq;by_cases hlt:j<s.size
  ·have hjs:(j:Int)<(s.size:Int):=by omega
   obtain⟨y0,y1,y3⟩:=HNOD.out wr a' m hS.ks hS.a2;obtain⟨x0, -, -, -,xl⟩:=hX.a2;simp at x0;obtain⟨cc,hcc⟩:∃ cc,cc=s[j]:=⟨_,rfl⟩;have HDB:=Lib.hid (drop_byte s j hlt);rw[←hcc] at HDB;have hc9:cc.toNat≤65535:=Gzu cc;have hwr:wrap64 (cc.toNat:Int)=(cc.toNat:Int):=wrap64_small hc9;have HS:=Lib.hid hS;have HXX:=Lib.hid hX;have HTT:=Lib.hid hT;clear hS hX hT;go_upto_region 17 with fail
   have hKd:KS B wr.drew g a' { k with mem:=m } ms es:=HS.out.ks.below (Below.drewN' (Below.refl wr.heap.size wr) 1);have HFd:Hid (Fr B w wr.drew):=Fr.drewN HS.out.fr 1;have HXd:Hid (Blk wr.drew w.heap.size 59 #[.pointer (some ⟨g,0,none⟩)]):=HXX.out.drewN 1;have HTd:Hid (Tab wr.drew):=(HTT.out.below (Below.drewN' (Below.refl wr.heap.size wr) 1));have HASK:=Lib.hid (Kzh HRR.out u cc.toNat wr.drew hKd HS.out.ok HTd.out hum hc9);clear hKd;have hwi:IntKind.i64.wrap (cc.toNat:Int)=(cc.toNat:Int):=wrap_small hc9;subst hcc;refine Qz0 wr.drew w.heap.size g b2 nd u j s hlt (fun v b w'=>Hz9 B wr.drew g ms es a' { k with mem:=m } (askK { k with mem:=m } u s[j].toNat) (.returned (.tuple #[.int .i64 v, .bool b])) w') wr _ xl x0 y0 y3 hwi hwr ?_ rfl ?_
   ·refine HASK.out.mono ?_
    rintro e w' hA;rcases hA with⟨h1,h2,(⟨h3,rfl,h4⟩|⟨v,k2,a2,h3,rfl,h4⟩)⟩
    ·exact⟨_,_,rfl,h1,h2, .inl ⟨h3,rfl,h4⟩⟩
    ·exact⟨_,_,rfl,h1,h2, .inr ⟨v,k2,a2,h3,rfl,h4⟩⟩
   clear y0 y1 y3 x0 xl hwi hwr HASK;intro listed w3 y12 y13 y96 y97 y98 y99 y100 y101 y102 y103 y104 y105 y106 y107 y108 hall hJ;obtain⟨sp,rfl,hE⟩:=hJ.f13 (hall 13 (by decide));obtain⟨sq,rfl,hE2⟩:=hJ.f14 (hall 14 (by decide));have hP:=hE2;clear hJ hE;obtain⟨v0,bb⟩:=sq;rcases hP with⟨hf3,ht3,(⟨hn,hee,hk3⟩|⟨v,k2,a2,hs,hee,hk3,ea,_,ea2,_⟩)⟩
   all_goals (simp only at hee;injection hee with hee;injection hee with hee;simp only[Array.mk.injEq,List.cons.injEq,Value.int.injEq,Value.bool.injEq,true_and,and_true] at hee;obtain⟨rfl,rfl⟩:=hee)
   ·have hall:=HS.out.all
    rw[HDB.out,Gz7 hn] at hall;simp only[Nat.zero_add] at hall;have HF3:=Lib.hid (HFd.out.trans hf3);have HK3:=Lib.hid hk3;by_cases hj0:j=0
    ·have HV:Hid (Azh k p i s=({ k with mem:=m },ansE 14)):=by
      show _=_;rw[HRK.out,hall];simp only;rw[if_pos hj0]
     have j0:((j:Int) == 0)=true:=by rw[hj0];rfl
     have j1:(j:Int)=0:=by omega
     clear hall hj0 hn hf3 ht3 hk3;go_wp2;go_ret2;rw[HV.out];exact⟨rfl,HF3.out,_,HK3.out⟩
    ·have HV:Hid (Azh k p i s=({ k with mem:=m },ansN j)):=by
      show _=_;rw[HRK.out,hall];simp only;rw[if_neg hj0]
     have j0:((j:Int) == 0)=false:=by rw[beq_eq_false_iff_ne];omega
     clear hall hj0 hn hf3 ht3 hk3;go_wp2;go_ret2;rw[HV.out];exact⟨rfl,HF3.out,_,HK3.out⟩
   ·obtain⟨hok,_,_,m2,rfl⟩:=Kzi HS.out.ok hc9 hum hs
    have hall:=HS.out.all;rw[HDB.out,Gz8 hs] at hall;have hS2:DevS B w w3 g a k ms es u s.data.toList (j+1) a2 { k with mem:=m2 }:=⟨hk3,hok,⟨m2,rfl⟩,ea2.trans HS.out.a2,HFd.out.trans hf3,by rw[hall];simp only;congr 1;omega⟩;have hT3:Tab w3:=⟨Nat.lt_of_lt_of_le HTd.out.1 hf3.low'.size,fun q hq=>(hf3.low'.cell (p:=⟨_,q,none⟩) hgB).trans (HTd.out.2 q hq)⟩;have hX3:=HXd.out.tch ht3 (by decide);have HS2:=Lib.hid (And.intro hS2 (And.intro hT3 hX3));clear hall hS2 hT3 hX3 hs hf3 ht3 hk3 hok;go_wp2
    first|exact⟨⟨j+1,hlt,by go_num,_,_,HS2.out.1,HS2.out.2.1,HS2.out.2.2⟩,by simp[intOf];omega⟩|(go_roundw;(case rel=>exact⟨j+1,hlt,by go_num,_,_,HS2.out.1,HS2.out.2.1,HS2.out.2.2⟩);(case measure=>simp[intOf];omega))
  ·obtain rfl:j=s.size:=by omega
   have hall:=hS.all;have hnil:s.data.toList.drop s.size=[]:=by
    rw[List.drop_eq_nil_iff];simp
   rw[hnil] at hall;have HV:Hid (Azh k p i s=({ k with mem:=m },ansN s.size)):=by
    show _=_;rw[HRK.out,hall];simp only[Bzl,Nat.zero_add];rw[if_neg (by omega)]
   have HS:=Lib.hid hS;clear hall hnil hS hX hT hlt;go_wp2;go_ret2;rw[HV.out];exact⟨rfl,HS.out.fr,_,HS.out.ks⟩
end
end Go.Proofs.YtdjamdbamkhblacGreatDoor
