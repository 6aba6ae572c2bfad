/- The drawn region of the kernel's by that makes a process of another's ends. No condition. By an AI agent (xbyf.py). The machine in memory, and the walks of its small functions: no condition. The machine under way in memory: its block and its three rows, and how each step keeps them: no condition. What a run of the machine returns, in memory: the words that cpu.Run's and the reference's walks speak. No condition. -/
import Derived.Test.YtdjamdbamkhblacDoorG21
set_option maxHeartbeats 8000000
namespace Go.Proofs.YtdjamdbamkhblacDoor
open Go.RowKit
set_option linter.unusedVariables false
set_option linter.unusedSimpArgs false
structure BFJ (w0:World) (bw g b4 c4 be c p q:Nat) (xs:List Value) (u0 u1:Value) (t0t t1t t2t t3t t4t t5t t6t t7t t8t t9t t10t t11t t12t t13t:Bool) (W:World) (y139 y140 y141 y142 y143 y144 y145 y146 y147 y148 y149 y150 y151:Value):Prop where
 f0:t0t=true→y139= .pointer (some ⟨bw,0,none⟩)
 f1:t1t=true→y140= .pointer (some ⟨g,0,none⟩)
 f2:t2t=true→y141= .pointer (some ⟨g,0,none⟩)
 f3:t3t=true→y142= .pointer (some ⟨g,4,none⟩)
 f4:t4t=true→y143= .slice (some ⟨b4,0,none⟩) 4 c4
 f5:t5t=true→y144= .int .i64 (q:Int)
 f6:t6t=true→y145= .pointer (some ⟨b4,p*2,none⟩)
 f7:t7t=true→y146= .pointer (some ⟨b4,p*2,none⟩)
 f8:t8t=true→y147= .pointer (some ⟨b4,p*2+1,none⟩)
 f9:t9t=true→y148= .slice (some ⟨be,0,none⟩) 6 c
 f10:t10t=true→∃ s:Value,y149=s∧(t13t=false→W.ownsRow w0.heap.size 82 3 s 6 xs)
 f11:t11t=true→∃ s:Value,y150= .agg #[.bool true,s]∧(t13t=false→W.ownsRow w0.heap.size 82 3 s 6 xs)
 f12:t12t=true→y151= .pointer (some ⟨b4,q*2,none⟩)
 f13:t13t=true→∃ (V:Value) (W1:World),Below w0.heap.size w0 W1∧W1.ownsRow w0.heap.size 82 3 V 6 xs∧W=(W1.setCell ⟨b4,q*2,none⟩ (.bool true)).setCell ⟨b4,q*2+1,none⟩ V
 q13_1:t13t=true→t1t=true
 q13_4:t13t=true→t4t=true
 q13_9:t13t=true→t9t=true
 q13_10:t13t=true→t10t=true
 q13_11:t13t=true→t11t=true
 w:t13t=false→Below w0.heap.size w0 W
noncomputable def Qzi:Code:=((Tryd.f81.body.bind (Dz9 40)).getD .skip)
set_option maxRecDepth 1000000 in
theorem Rzz (w0:World) (bw g b4 c4 be c p q:Nat) (xs:List Value) (u0 u1:Value) {v0 v2 v4 v5 v6 v7 v8 v9 v10 v11 v12 v13 v15 v16 v17 v18 v19 v20 v21 v22 v23 v24 v25 v26 v27 v28 v29 v30 v31 v32 v33 v34 v35 v36 v37 v38 v39 v40 v41 v42 v43 v44 v45 v46 v47 v48 v49 v50 v51 v52 v53 v54 v55 v56 v57 v58 v59 v60 v61 v62 v63 v64 v65 v66 v67 v68 v69 v70 v71 v72 v73 v74 v75 v76 v77 v78 v79 v80 v81 v82 v83 v84 v85 v86 v87 v88 v89 v90 v91 v92 v93 v94 v95 v96 v97 v98 v99 v100 v101 v102 v103 v104 v105 v106 v107 v108 v109 v110 v111 v112 v113 v114 v115 v116 v117 v118 v119 v120 v121 v122 v123 v124 v125 v126 v127 v128 v129 v130 v131 v132 v133 v134 v135 v136 v137 v138 v139 v140 v141 v142 v143 v144 v145 v146 v147 v148 v149 v150 v151 v152 v153 v154 v155 v156 v157 v158 v159 v160 v161 v162 v163 v164 v165 v166 v167 v168 v169 v170 v171 v172 v173 v174 v175 v176 v177 v178 v179 v180 v181 v182 v183 v184 v185 v186 v187 v188 v189 v190 v191 v192 v193 v194 v195 v196 v197 v198 v199 v200 v201 v202 v203 v204 v205 v206 v207 v208 v209 v210 v211 v212 v213 v214 v215 v216 v217 v218 v219 v220 v221 v222 v223 v224 v225 v226 v227 v228 v229 v230 v231 v232 v233 v234 v235 v236 v237 v238 v239 v240 v241 v242 v243 v244 v245 v246 v247 v248 v249 v250 v251 v252:Value} (wr:World) (Q:Exit→Act→World→Prop) (hbs:Below w0.heap.size w0 wr.drew) (hlw:bw<w0.heap.size) (hw0:w0.cell? ⟨bw,0,none⟩=some (.pointer (some ⟨g,0,none⟩))) (hlg:g<w0.heap.size) (hg4:w0.cell? ⟨g,4,none⟩=some (.slice (some ⟨b4,0,none⟩) 4 c4)) (hlb:b4<w0.heap.size) (hp1:w0.cell? ⟨b4,p*2+1,none⟩=some (.slice (some ⟨be,0,none⟩) 6 c)) (hc0:w0.cell? ⟨b4,q*2,none⟩=some (u0)) (hc1:w0.cell? ⟨b4,q*2+1,none⟩=some (u1)) (hf0:w0.frozen? ⟨b4,q*2,none⟩=false) (hf1:w0.frozen? ⟨b4,q*2+1,none⟩=false) (hq:q<4) (hcall:∀ W:World,Below w0.heap.size w0 W→Calls Tryd.prog 58 #[.slice (some ⟨be,0,none⟩) 6 c] W fun e w'=>∃ V,e= .returned V∧w'.ownsRow W.heap.size 82 3 V 6 xs∧Below W.heap.size W w')
  (hQ:∀ (listed:Array Bool) (W:World) (y139 y140 y141 y142 y143 y144 y145 y146 y147 y148 y149 y150 y151:Value),(∀ i,i<14→listed.getD i true=true)→BFJ w0 bw g b4 c4 be c p q xs u0 u1 (listed.getD 0 true) (listed.getD 1 true) (listed.getD 2 true) (listed.getD 3 true) (listed.getD 4 true) (listed.getD 5 true) (listed.getD 6 true) (listed.getD 7 true) (listed.getD 8 true) (listed.getD 9 true) (listed.getD 10 true) (listed.getD 11 true) (listed.getD 12 true) (listed.getD 13 true) W y139 y140 y141 y142 y143 y144 y145 y146 y147 y148 y149 y150 y151→Q .normal ⟨#[v0, .pointer (some ⟨b4,p*2,none⟩),v2, .pointer (some ⟨bw,0,none⟩),v4,v5,v6,v7,v8,v9,v10,v11,v12,v13, .int .i64 (q:Int),v15,v16,v17,v18,v19,v20,v21,v22,v23,v24,v25,v26,v27,v28,v29,v30,v31,v32,v33,v34,v35,v36,v37,v38,v39,v40,v41,v42,v43,v44,v45,v46,v47,v48,v49,v50,v51,v52,v53,v54,v55,v56,v57,v58,v59,v60,v61,v62,v63,v64,v65,v66,v67,v68,v69,v70,v71,v72,v73,v74,v75,v76,v77,v78,v79,v80,v81,v82,v83,v84,v85,v86,v87,v88,v89,v90,v91,v92,v93,v94,v95,v96,v97,v98,v99,v100,v101,v102,v103,v104,v105,v106,v107,v108,v109,v110,v111,v112,v113,v114,v115,v116,v117,v118,v119,v120,v121,v122,v123,v124,v125,v126,v127,v128,v129,v130,v131,v132,v133,v134,v135,v136,v137,v138,y139,y140,y141,y142,y143,y144,y145,y146,y147,y148,y149,y150,y151,v152,v153,v154,v155,v156,v157,v158,v159,v160,v161,v162,v163,v164,v165,v166,v167,v168,v169,v170,v171,v172,v173,v174,v175,v176,v177,v178,v179,v180,v181,v182,v183,v184,v185,v186,v187,v188,v189,v190,v191,v192,v193,v194,v195,v196,v197,v198,v199,v200,v201,v202,v203,v204,v205,v206,v207,v208,v209,v210,v211,v212,v213,v214,v215,v216,v217,v218,v219,v220,v221,v222,v223,v224,v225,v226,v227,v228,v229,v230,v231,v232,v233,v234,v235,v236,v237,v238,v239,v240,v241,v242,v243,v244,v245,v246,v247,v248,v249,v250,v251,v252],[]⟩ W):
  Code.wp Tryd.prog Qzi Q ⟨#[v0, .pointer (some ⟨b4,p*2,none⟩),v2, .pointer (some ⟨bw,0,none⟩),v4,v5,v6,v7,v8,v9,v10,v11,v12,v13, .int .i64 (q:Int),v15,v16,v17,v18,v19,v20,v21,v22,v23,v24,v25,v26,v27,v28,v29,v30,v31,v32,v33,v34,v35,v36,v37,v38,v39,v40,v41,v42,v43,v44,v45,v46,v47,v48,v49,v50,v51,v52,v53,v54,v55,v56,v57,v58,v59,v60,v61,v62,v63,v64,v65,v66,v67,v68,v69,v70,v71,v72,v73,v74,v75,v76,v77,v78,v79,v80,v81,v82,v83,v84,v85,v86,v87,v88,v89,v90,v91,v92,v93,v94,v95,v96,v97,v98,v99,v100,v101,v102,v103,v104,v105,v106,v107,v108,v109,v110,v111,v112,v113,v114,v115,v116,v117,v118,v119,v120,v121,v122,v123,v124,v125,v126,v127,v128,v129,v130,v131,v132,v133,v134,v135,v136,v137,v138,v139,v140,v141,v142,v143,v144,v145,v146,v147,v148,v149,v150,v151,v152,v153,v154,v155,v156,v157,v158,v159,v160,v161,v162,v163,v164,v165,v166,v167,v168,v169,v170,v171,v172,v173,v174,v175,v176,v177,v178,v179,v180,v181,v182,v183,v184,v185,v186,v187,v188,v189,v190,v191,v192,v193,v194,v195,v196,v197,v198,v199,v200,v201,v202,v203,v204,v205,v206,v207,v208,v209,v210,v211,v212,v213,v214,v215,v216,v217,v218,v219,v220,v221,v222,v223,v224,v225,v226,v227,v228,v229,v230,v231,v232,v233,v234,v235,v236,v237,v238,v239,v240,v241,v242,v243,v244,v245,v246,v247,v248,v249,v250,v251,v252],[]⟩ wr:=by
 have HQ:=Lib.hid hQ;clear hQ;conv=>arg 2;whnf
 refine Bzb (fun listed a W=>∃ y139 y140 y141 y142 y143 y144 y145 y146 y147 y148 y149 y150 y151,BFJ w0 bw g b4 c4 be c p q xs u0 u1 (listed.getD 0 true) (listed.getD 1 true) (listed.getD 2 true) (listed.getD 3 true) (listed.getD 4 true) (listed.getD 5 true) (listed.getD 6 true) (listed.getD 7 true) (listed.getD 8 true) (listed.getD 9 true) (listed.getD 10 true) (listed.getD 11 true) (listed.getD 12 true) (listed.getD 13 true) W y139 y140 y141 y142 y143 y144 y145 y146 y147 y148 y149 y150 y151∧a=⟨#[v0, .pointer (some ⟨b4,p*2,none⟩),v2, .pointer (some ⟨bw,0,none⟩),v4,v5,v6,v7,v8,v9,v10,v11,v12,v13, .int .i64 (q:Int),v15,v16,v17,v18,v19,v20,v21,v22,v23,v24,v25,v26,v27,v28,v29,v30,v31,v32,v33,v34,v35,v36,v37,v38,v39,v40,v41,v42,v43,v44,v45,v46,v47,v48,v49,v50,v51,v52,v53,v54,v55,v56,v57,v58,v59,v60,v61,v62,v63,v64,v65,v66,v67,v68,v69,v70,v71,v72,v73,v74,v75,v76,v77,v78,v79,v80,v81,v82,v83,v84,v85,v86,v87,v88,v89,v90,v91,v92,v93,v94,v95,v96,v97,v98,v99,v100,v101,v102,v103,v104,v105,v106,v107,v108,v109,v110,v111,v112,v113,v114,v115,v116,v117,v118,v119,v120,v121,v122,v123,v124,v125,v126,v127,v128,v129,v130,v131,v132,v133,v134,v135,v136,v137,v138,y139,y140,y141,y142,y143,y144,y145,y146,y147,y148,y149,y150,y151,v152,v153,v154,v155,v156,v157,v158,v159,v160,v161,v162,v163,v164,v165,v166,v167,v168,v169,v170,v171,v172,v173,v174,v175,v176,v177,v178,v179,v180,v181,v182,v183,v184,v185,v186,v187,v188,v189,v190,v191,v192,v193,v194,v195,v196,v197,v198,v199,v200,v201,v202,v203,v204,v205,v206,v207,v208,v209,v210,v211,v212,v213,v214,v215,v216,v217,v218,v219,v220,v221,v222,v223,v224,v225,v226,v227,v228,v229,v230,v231,v232,v233,v234,v235,v236,v237,v238,v239,v240,v241,v242,v243,v244,v245,v246,v247,v248,v249,v250,v251,v252],[]⟩) (by kernel_rfl) (Ezy (by kernel_rfl)) ?start ?step ?fin
 case start=>
  refine⟨_,_,_,_,_,_,_,_,_,_,_,_,_,?_,rfl⟩;constructor
  all_goals first|exact fun _=>hbs|exact fun _=>rfl|exact fun h=>absurd h (by decide)
 case step=>
  intro i o ho listed a W hl haf hI K hK;obtain⟨y139,y140,y141,y142,y143,y144,y145,y146,y147,y148,y149,y150,y151,hJ,rfl⟩:=hI;have hK:=fun (W':World) z139 z140 z141 z142 z143 z144 z145 z146 z147 z148 z149 z150 z151 h=>hK _ W' ⟨z139,z140,z141,z142,z143,z144,z145,z146,z147,z148,z149,z150,z151,h,rfl⟩
  simp only[Az2] at hK;have hi:i<14:=(Array.getElem?_eq_some_iff.1 ho).1;have h16:i=0∨i=1∨i=2∨i=3∨i=4∨i=5∨i=6∨i=7∨i=8∨i=9∨i=10∨i=11∨i=12∨i=13:=by omega
  rcases h16 with rfl|rfl|rfl|rfl|rfl|rfl|rfl|rfl|rfl|rfl|rfl|rfl|rfl|rfl
  all_goals
   have ho:=Option.some.inj ho;subst ho
   try simp[Region.binds] at haf
  ·
    go_simp;apply hK;exact { hJ with f0:=fun _=>rfl }
  ·
    obtain rfl:=hJ.f0 (Az3 (by simp[haf]));have h13:=nlR hJ.q13_1 hl;have hw:=hJ.w h13;have e1:=(hw.cell (p:=⟨bw,0,none⟩) hlw).trans hw0;go_simp;apply hK;exact { hJ with f1:=fun _=>rfl,q13_1:=fun _=>rfl }
  ·
    obtain rfl:=hJ.f1 (Az3 (by simp[haf]));go_simp;apply hK;exact { hJ with f2:=fun _=>rfl }
  ·
    obtain rfl:=hJ.f2 (Az3 (by simp[haf]));go_simp;apply hK;exact { hJ with f3:=fun _=>rfl }
  ·
    obtain rfl:=hJ.f3 (Az3 (by simp[haf]));have h13:=nlR hJ.q13_4 hl;have hw:=hJ.w h13;have e1:=(hw.cell (p:=⟨g,4,none⟩) hlg).trans hg4;go_simp;apply hK;exact { hJ with f4:=fun _=>rfl,q13_4:=fun _=>rfl }
  ·
    go_simp;apply hK;exact { hJ with f5:=fun _=>rfl }
  ·
    go_simp;apply hK;exact { hJ with f6:=fun _=>rfl }
  ·
    obtain rfl:=hJ.f6 (Az3 (by simp[haf]));go_simp;apply hK;exact { hJ with f7:=fun _=>rfl }
  ·
    obtain rfl:=hJ.f7 (Az3 (by simp[haf]));go_simp;apply hK;exact { hJ with f8:=fun _=>rfl }
  ·
    obtain rfl:=hJ.f8 (Az3 (by simp[haf]));have h13:=nlR hJ.q13_9 hl;have hw:=hJ.w h13;have e1:=(hw.cell (p:=⟨b4,p*2+1,none⟩) hlb).trans hp1;go_simp;apply hK;exact { hJ with f9:=fun _=>rfl,q13_9:=fun _=>rfl }
  ·
    obtain rfl:=hJ.f9 (Az3 (by simp[haf]));have h13:=nlR hJ.q13_10 hl;have hw:=hJ.w h13;have hc:=hcall W hw;go_simp;go_at_call 58;refine hc.mono ?_;rintro e' w2 ⟨V,rfl,hV,hb2⟩;apply hK;exact { hJ with f10:=fun _=>⟨V,rfl,fun _=>own_base hV hw.size⟩,f11:=fun x=>by obtain⟨s,e1,e2⟩:=hJ.f11 x;exact⟨s,e1,fun h=>own_below (e2 h) hb2⟩,f13:=fun x=>by have e:=hJ.q13_10 x;rw[hl] at e;exact absurd e (by decide),q13_10:=fun _=>rfl,w:=(fun h=>(hJ.w h).trans (hb2.mono hw.size)) }
  ·
    obtain⟨s10,rfl,hE10⟩:=hJ.f10 (Az3 (by simp[haf]));have h13:=nlR hJ.q13_11 hl;have hw:=hJ.w h13;obtain⟨AV,cV,rfl⟩:=Az5 (hE10 h13);go_simp;apply hK;exact { hJ with f11:=fun _=>⟨_,rfl,fun h=>hE10 h⟩,q13_11:=fun _=>rfl }
  ·
    obtain rfl:=hJ.f4 (Az3 (by simp[haf]));obtain rfl:=hJ.f5 (Az3 (by simp[haf]));have hq4:(q:Int)<4:=by omega
    go_simp;apply hK;exact { hJ with f12:=fun _=>rfl }
  ·
    have p11:listed.getD 11 true=true:=Az3 (by simp[haf]);have p1:listed.getD 1 true=true:=Az3 (by simp[haf]);have p4:listed.getD 4 true=true:=Az3 (by simp[haf]);have p9:listed.getD 9 true=true:=Az3 (by simp[haf]);have p10:listed.getD 10 true=true:=Az3 (by simp[haf]);obtain rfl:=hJ.f12 (Az3 (by simp[haf]));obtain⟨s11,rfl,hE11⟩:=hJ.f11 p11;obtain⟨s10,rfl,hE10⟩:=hJ.f10 p10;have hw:=hJ.w hl;have hO:=hE11 hl;obtain⟨AV,cV,rfl⟩:=Az5 hO;have hlt:b4<W.heap.size:=Nat.lt_of_lt_of_le hlb hw.size;have e0:=(hw.cell (p:=⟨b4,q*2,none⟩) hlb).trans hc0;have e1:=(hw.cell (p:=⟨b4,q*2+1,none⟩) hlb).trans hc1;have f0:=(hw.frozen (p:=⟨b4,q*2,none⟩) hlb).trans hf0;have f1:=(hw.frozen (p:=⟨b4,q*2+1,none⟩) hlb).trans hf1;go_simp;apply hK;exact { hJ with f10:=fun x=>by obtain⟨s,e1,e2⟩:=hJ.f10 x;exact⟨s,e1,tfR⟩,f11:=fun x=>by obtain⟨s,e1,e2⟩:=hJ.f11 x;exact⟨s,e1,tfR⟩,f13:=fun _=>⟨_,W,hw,hO,rfl⟩,q13_1:=fun _=>p1,q13_4:=fun _=>p4,q13_9:=fun _=>p9,q13_10:=fun _=>p10,q13_11:=fun _=>p11,w:=tfR }
 case fin=>
  intro listed a W hall hI;obtain⟨y139,y140,y141,y142,y143,y144,y145,y146,y147,y148,y149,y150,y151,hJ,rfl⟩:=hI;exact HQ.out listed W _ _ _ _ _ _ _ _ _ _ _ _ _ hall hJ
theorem Fz9 (n:Int):bits .and .i64 n 65535=n % 65536:=by
 have hm:(BitVec.ofInt 64 65535).toNat=2 ^ 16 - 1:=by decide
 have key:(BitVec.ofInt 64 n &&& BitVec.ofInt 64 65535).toNat=(n % ((2 ^ 64:Nat):Int)).toNat % 2 ^ 16:=by
  rw[BitVec.toNat_and,BitVec.toNat_ofInt,hm,Nat.and_two_pow_sub_one_eq_mod]
 show IntKind.i64.wrap ((BitVec.ofInt 64 n &&& BitVec.ofInt 64 65535).toNat:Nat)=n % 65536;rw[key,IntKind.wrap_i64];omega
theorem Fza (a b:Nat) (ha:a≤65535) (hb:b≤65535):bits .and .i64 (a:Int) (b:Int)=((a &&& b:Nat):Int):=by
 have hx:a &&& b<2 ^ 16:=Nat.and_lt_two_pow _ (by omega);show IntKind.i64.wrap ((BitVec.ofInt 64 (a:Int) &&& BitVec.ofInt 64 (b:Int)).toNat:Int)=_;rw[BitVec.toNat_and,ofInt_u64 a (by omega),ofInt_u64 b (by omega),IntKind.wrap_i64];omega
theorem Fzy (a b:Nat) (ha:a≤65535) (hb:b≤65535):bits .or .i64 (a:Int) (b:Int)=((a |||b:Nat):Int):=by
 have hx:a |||b<2 ^ 16:=Nat.or_lt_two_pow (by omega) (by omega);show IntKind.i64.wrap ((BitVec.ofInt 64 (a:Int) |||BitVec.ofInt 64 (b:Int)).toNat:Int)=_;rw[BitVec.toNat_or,ofInt_u64 a (by omega),ofInt_u64 b (by omega),IntKind.wrap_i64];omega
theorem Iz8 (a b:Nat) (ha:a≤65535) (hb:b≤65535):bits .xor .i64 (a:Int) (b:Int)=((a ^^^ b:Nat):Int):=by
 have hx:a ^^^ b<2 ^ 16:=Nat.xor_lt_two_pow (by omega) (by omega);show IntKind.i64.wrap ((BitVec.ofInt 64 (a:Int) ^^^ BitVec.ofInt 64 (b:Int)).toNat:Int)=_;rw[BitVec.toNat_xor,ofInt_u64 a (by omega),ofInt_u64 b (by omega),IntKind.wrap_i64];omega
theorem Pzy (n:Int) (w:World):Calls Tryd.prog 173 #[.int .i64 n] w fun e w'=>e= .returned (.bool (!oddW n))∧w=w':=by
 by_cases h1:0≤n
 ·go_enter Tryd.func173,Tryd.ntmps173
  go_wp2;go_ret;refine⟨Aza ?_,rfl⟩;rw[Bool.eq_iff_iff];simp[oddW];omega
 ·have h2:n<0:=by omega
  go_enter Tryd.func173,Tryd.ntmps173;go_wp2;go_ret;refine⟨Aza ?_,rfl⟩;rw[Bool.eq_iff_iff];simp[oddW];omega
theorem Jzr (n:Int) (w:World):Calls Tryd.prog 172 #[.int .i64 n] w fun e w'=>e= .returned (.bool (oddW n))∧w=w':=by
 go_enter Tryd.func172,Tryd.ntmps172;go_wp2_with (go_at_call 173;refine(Pzy _ _).mono ?_;rintro e w' ⟨rfl,rfl⟩);go_ret;exact⟨Aza (by simp),rfl⟩
theorem Gzh:∀ args w,(callFunc 172 args).run Tryd.prog w= .ok (.enter 172 args) w:=fun args w=>by
 simp only[callFunc,run_program,Sem.run_bind,Result.andThen_ok,Tryd.func172];rfl
theorem Oz1 (b:Bool) (w:World):Calls Tryd.prog 185 #[.bool b] w fun e w'=>e= .returned (.int .i64 (if b then 1 else 0))∧w=w':=by
 cases b
 all_goals
  go_enter Tryd.func185,Tryd.ntmps185;go_wp2;go_ret;exact⟨rfl,rfl⟩
def natV (n:Nat):Value:= .int .i64 (n:Int)
def Azg (C:Value) (pos:Nat) (B:Value) (en:Nat) (r:List Nat) (T M:Value):Array Value:=
 #[C,natV pos,B,natV en,natV (r.getD 0 0),natV (r.getD 1 0),natV (r.getD 2 0),natV (r.getD 3 0),natV (r.getD 4 0),natV (r.getD 5 0),natV (r.getD 6 0),natV (r.getD 7 0),T,M]
theorem Fzd {C B T M:Value} {pos en:Nat} {r:List Nat} (k:Nat) (hk:k≤7):(Azg C pos B en r T M)[4+k]? =some (natV (r.getD k 0)):=by
 match k,hk with
 | 0,_=>rfl
 | 1,_=>rfl
 | 2,_=>rfl
 | 3,_=>rfl
 | 4,_=>rfl
 | 5,_=>rfl
 | 6,_=>rfl
 | 7,_=>rfl
 | k+8,h=>omega
theorem Szc {C B T M:Value} {pos en:Nat} {r:List Nat} (hr:r.length=8) (k:Nat) (hk:k≤7) (v:Nat):(Azg C pos B en r T M).setIfInBounds (4+k) (natV v)=Azg C pos B en (r.set k v) T M:=by
 match r,hr with
 | [a0,a1,a2,a3,a4,a5,a6,a7],_=>
   match k,hk with
   | 0,_=>rfl
   | 1,_=>rfl
   | 2,_=>rfl
   | 3,_=>rfl
   | 4,_=>rfl
   | 5,_=>rfl
   | 6,_=>rfl
   | 7,_=>rfl
   | k+8,h=>omega
theorem Lzp (g:Nat) (cs:Array Value) (i:Ins) (x y:Nat) (w:World) (hB:Blk w g 226 cs) (hi:InsOk i) (ho:¬ (8≤i.op))
  (hx:cs[4+i.b.toNat]? =some (natV x)) (hy:cs[4+(i.c % 8).toNat]? =some (natV y)) (hxw:x≤65535) (hyw:y≤65535):
  Calls Tryd.prog 182 #[.pointer (some ⟨g,0,none⟩),i.val] w fun e w'=>e= .returned (.int .i64 (reck x y i.op.toNat i.c.toNat:Nat))∧Below w.heap.size w w':=by
 obtain⟨o1,o2,a0,a7,b0,b7,c0,cw,c7⟩:=hi;obtain⟨o,a,b,c⟩:=i;simp only at o1 o2 a0 a7 b0 b7 c0 cw c7 ho hx hy ⊢;unfold Ins.val;simp only;obtain⟨bn,rfl⟩:∃ n:Nat,b=(n:Int):=⟨b.toNat,by omega⟩;obtain⟨cn,rfl⟩:∃ n:Nat,c=(n:Int):=⟨c.toNat,by omega⟩;have hc8:((cn:Int) % 8).toNat=cn % 8:=by omega
 rw[hc8] at hy;have e1:=(hB.cell (4+bn)).trans hx;have e2:=(hB.cell (4+cn % 8)).trans hy;have hg:=hB.lt;unfold natV at e1 e2;have hcm:((cn:Int) % 8)=((cn % 8:Nat):Int):=by omega
 have hm7:cn % 8≤7:=by omega
 have HC:=Lib.hid hcm;clear hcm hc8 hx hy hB;have hbn:(bn:Int)<8:=by omega
 have hcn:(cn:Int) % 8<8:=by omega
 have hcn0:0≤(cn:Int) % 8:=by omega
 have hcr:(cn:Int).tmod 8=(cn % 8:Nat):=by rw[Int.tmod_eq_emod_of_nonneg (by omega)];omega
 go_enter Tryd.func182,Tryd.ntmps182;go_wp2;go_quiet (fail);go_wp2_with (go_at_call 185;refine(Oz1 _ _).mono ?_;rintro e w' ⟨rfl,rfl⟩)
 all_goals go_ret
 all_goals refine⟨Azb ?_,Below.drewN' ((Below.refl _ _).alloc (Nat.le_refl _) _) _⟩
 all_goals simp only[beq_iff_eq,beq_eq_false_iff_ne] at*
 ·obtain rfl:o=2:=by assumption
  rw[Fz9];show _=(((x+y) % 65536:Nat):Int);omega
 ·obtain rfl:o=3:=by assumption
  rw[Fz9];show _=(((x+65536 - y) % 65536:Nat):Int);omega
 all_goals first
  | (obtain rfl:o=4:=by assumption
     rw[Fza x y hxw hyw];rfl)
  | (obtain rfl:o=5:=by assumption
     rw[Fzy x y hxw hyw];rfl)
  | (obtain rfl:o=6:=by assumption
     rw[Iz8 x y hxw hyw];rfl)
  | (obtain rfl:o=7:=by assumption
     show _=(((if x<y then 1 else 0):Nat):Int)
     first|(rw[if_pos (by assumption)];rfl)|(rw[if_neg (by omega)];rfl))
  | (obtain rfl:o=1:=by omega
     rfl)
def Bzi (l:List Nat):List Value:=l.map natV
theorem Izd (a b:List Nat):Bzi (a++b)=Bzi a++Bzi b:=by simp[Bzi]
theorem Kzd {l:List Nat} {k:Nat} (h:k<l.length):(Bzi l)[k]? =some (natV (l.getD k 0)):=by
 simp[Bzi,h]
theorem Nza (l:List Nat) (k v:Nat):Bzi (l.set k v)=(Bzi l).set k (natV v):=by simp[Bzi,List.map_set]
theorem Rz8 {w:World} {base n:Nat} {e:TypeId} {V:Value} {xs:List Value} {g:Nat} (h:w.ownsRow base e 1 V n xs) (hg:V.ownBlock=some g) (k:Nat) (u:Value):
  (w.setCell ⟨g,k,none⟩ u).ownsRow base e 1 V n (xs.set k u):=by
 refine⟨by rw[List.length_set];exact h.1,?_⟩;rcases h.2 with⟨rfl,_⟩|⟨g',cap,cur,rfl,hb,hh,hc,hz,hs,hx⟩
 ·simp[Value.ownBlock] at hg
 ·have e':g'=g:=by simpa [Value.ownBlock] using hg
  subst e';have hl:=h.1;refine .inr ⟨g',cap,cur.setIfInBounds k u,rfl,hb,?_,hc,hz,by simpa using hs,?_⟩
  ·exact Blk.set_ (cs:=cur) hh k u
  ·rw[←hx,Array.toList_setIfInBounds,List.take_set]
theorem Pzj {w:World} {base n cap g:Nat} {e:TypeId} {xs:List Value} (h:w.ownsRow base e 1 (.slice (some ⟨g,0,none⟩) n cap) n xs) (k:Nat) (hk:k≤n):
  w.ownsRow base e 1 (.slice (some ⟨g,0,none⟩) k cap) k (xs.take k):=by
 have hl:=h.1;refine⟨by rw[List.length_take];omega,?_⟩;rcases h.2 with⟨h0,_⟩|⟨g',cap',cur,hv,hb,hh,hc,hz,hs,hx⟩
 ·cases h0
 ·injection hv with e1 e2 e3
  injection e1 with e1
  injection e1 with e1
  subst e1 e3;refine .inr ⟨g,cap,cur,rfl,hb,hh,by omega,hz,hs,?_⟩;rw[←hx,List.take_take,Nat.min_eq_left (by omega),Nat.mul_one]
theorem set_grown' {w:World} {g:Nat} (k:Nat) (u:Value):w.grownBy (w.setCell ⟨g,k,none⟩ u) (some g):=Azm w ⟨g,k,none⟩ u
theorem Azz (w:World) (o:Obj):Below w.heap.size w (w.alloc o):=(Below.refl _ _).alloc (Nat.le_refl _) o
structure Mach (w0 w:World) (g:Nat) (C:Value) (s:Mc) (en:Nat) (B T M:Value):Prop where
 below:Below w0.heap.size w0 w
 lo:w0.heap.size≤g
 blk:Blk w g 226 (Azg C s.pos B en s.regs T M)
 ob:w.ownsRow w0.heap.size 3 1 B s.back.length (Bzi s.back)
 ot:w.ownsRow w0.heap.size 3 1 T s.told.length (Bzi s.told)
 om:w.ownsRow w0.heap.size 3 1 M s.mem.length (Bzi s.mem)
 bt:B.ownBlock=none∨B.ownBlock≠T.ownBlock
 bm:B.ownBlock=none∨B.ownBlock≠M.ownBlock
 tm:T.ownBlock=none∨T.ownBlock≠M.ownBlock
section
variable {w0 w:World} {g en:Nat} {C B T M:Value} {s:Mc}
theorem Mach.later (h:Mach w0 w g C s en B T M) {w':World} (hb:Below w.heap.size w w'):Mach w0 w' g C s en B T M:=
 ⟨h.below.trans (hb.mono h.below.size),h.lo,h.blk.below hb h.blk.lt,own_below h.ob hb,own_below h.ot hb,own_below h.om hb,h.bt,h.bm,h.tm⟩
theorem Mach.cellset (h:Mach w0 w g C s en B T M) (i:Nat) (u:Value) {s':Mc} {en':Nat} (hcs:(Azg C s.pos B en s.regs T M).setIfInBounds i u=Azg C s'.pos B en' s'.regs T M)
  (hb:s'.back=s.back) (ht:s'.told=s.told) (hm:s'.mem=s.mem):Mach w0 (w.setCell ⟨g,i,none⟩ u) g C s' en' B T M:=by
 have kp:∀ {V:Value} {n:Nat} {xs:List Value},w.ownsRow w0.heap.size 3 1 V n xs→(w.setCell ⟨g,i,none⟩ u).ownsRow w0.heap.size 3 1 V n xs:=fun ho=>ho.kept (set_grown' i u) (.inr (Az9 ho h.blk (by decide)))
 refine⟨h.below.setCell (p:=⟨g,i,none⟩) h.lo u,h.lo,?_,?_,?_,?_,h.bt,h.bm,h.tm⟩
 ·have:=h.blk.set_ i u
  rw[hcs] at this;exact this
 ·rw[hb];exact kp h.ob
 ·rw[ht];exact kp h.ot
 ·rw[hm];exact kp h.om
theorem Mach.setpos (h:Mach w0 w g C s en B T M) (p:Nat):Mach w0 (w.setCell ⟨g,1,none⟩ (natV p)) g C { s with pos:=p } en B T M:=
 h.cellset 1 _ rfl rfl rfl rfl
theorem Mach.setend (h:Mach w0 w g C s en B T M) (p:Nat):Mach w0 (w.setCell ⟨g,3,none⟩ (natV p)) g C s p B T M:=
 h.cellset 3 _ rfl rfl rfl rfl
theorem Mach.setreg (h:Mach w0 w g C s en B T M) (hr:s.regs.length=8) (k:Nat) (hk:k≤7) (v:Nat):Mach w0 (w.setCell ⟨g,4+k,none⟩ (natV v)) g C { s with regs:=s.regs.set k v } en B T M:=
 h.cellset (4+k) _ (Szc hr k hk v) rfl rfl rfl
theorem Mach.setmem (h:Mach w0 w g C s en B T M) {q:Nat} (hq:M.ownBlock=some q) (k:Nat) (v:Nat):Mach w0 (w.setCell ⟨q,k,none⟩ (natV v)) g C { s with mem:=s.mem.set k v } en B T M:=by
 have kp:∀ {V:Value} {n:Nat} {xs:List Value},w.ownsRow w0.heap.size 3 1 V n xs→V.ownBlock=none∨V.ownBlock≠M.ownBlock→(w.setCell ⟨q,k,none⟩ (natV v)).ownsRow w0.heap.size 3 1 V n xs:=fun ho hne=>ho.kept (set_grown' k _) (by rw[←hq];exact hne)
 refine⟨h.below.setCell (p:=⟨q,k,none⟩) (h.om.lt q hq).1 _,h.lo,?_,kp h.ob h.bm,kp h.ot h.tm,?_,h.bt,h.bm,h.tm⟩
 ·exact h.blk.far (p:=⟨q,k,none⟩) (fun e=>Az9 h.om h.blk (by decide) (by rw[hq,e])) _
 ·show (w.setCell ⟨q,k,none⟩ (natV v)).ownsRow w0.heap.size 3 1 M (s.mem.set k v).length (Bzi (s.mem.set k v))
  rw[List.length_set,Nza];exact Rz8 h.om hq k _
theorem Pza {w1:World} {base n:Nat} {e:TypeId} {V:Value} {xs:List Value} (h:w1.ownsRow base e 1 V n xs) {H:Nat} (hH:w1.heap.size≤H):V.ownBlock=none∨V.ownBlock≠some H:=by
 cases hv:V.ownBlock with
 | none=>exact .inl rfl
 | some k=>
   right;intro e;cases e
   have:=(h.lt _ hv).2;omega
theorem ne_comm' {a b:Option Nat} (h:a=none∨a≠b):b=none∨b≠a:=by
 rcases h with h|h
 ·cases b with
  | none=>exact .inl rfl
  | some k=>right;rw[h];intro e;cases e
 ·exact .inr (Ne.symm h)
theorem Mach.pushtold (h:Mach w0 w g C s en B T M) {W w1:World} (hW:Below w.heap.size w W) {g' cap:Nat} {x:Nat} {n':Nat} (hown:w1.ownsRow w0.heap.size 3 1 (.slice (some ⟨g',0,none⟩) n' cap) n' (Bzi s.told++ [natV x])) (hn:n'=s.told.length+1)
  (hgrow:W.grownBy w1 T.ownBlock) (hat:T.ownBlock=some g'∨g'=W.heap.size):
  Mach w0 (w1.setCell ⟨g,12,none⟩ (.slice (some ⟨g',0,none⟩) n' cap)) g C { s with told:=s.told++ [x] } en B (.slice (some ⟨g',0,none⟩) n' cap) M:=by
 have h1:=h.later hW;have hgw:W.heap.size≤w1.heap.size:=hgrow.size;have kb:=h1.ob.kept hgrow h1.bt;have km:=h1.om.kept hgrow (ne_comm' h1.tm);have kk:=h1.blk.grown hgrow (fun e=>Az9 h1.ot h1.blk (by decide) e.symm);have hnew:(Value.slice (some ⟨g',0,none⟩) n' cap).ownBlock=T.ownBlock∨(Value.slice (some ⟨g',0,none⟩) n' cap).ownBlock=some W.heap.size:=by
  rcases hat with e|e
  ·exact .inl (by rw[e];rfl)
  ·exact .inr (by rw[←e];rfl)
 generalize hv:Value.slice (some ⟨g',0,none⟩) n' cap=T' at*;have kp:∀ {V:Value} {n:Nat} {xs:List Value},w1.ownsRow w0.heap.size 3 1 V n xs→(w1.setCell ⟨g,12,none⟩ T').ownsRow w0.heap.size 3 1 V n xs:=fun ho=>ho.kept (set_grown' 12 T') (.inr (Az9 ho kk (by decide)))
 refine⟨?_,h.lo,?_,kp kb,?_,kp km,?_,h.bm,?_⟩
 ·exact(h1.below.grown hgrow h1.below.size (fun q hq=>(h1.ot.lt q hq).1)).setCell (p:=⟨g,12,none⟩) h.lo _
 ·exact kk.set_ 12 T'
 ·show (w1.setCell ⟨g,12,none⟩ T').ownsRow w0.heap.size 3 1 T' (s.told++ [x]).length (Bzi (s.told++ [x]))
  rw[List.length_append,Izd];rw[hn] at hown;exact kp hown
 ·rcases hnew with e|e
  ·rw[e];exact h.bt
  ·rw[e];exact Pza h1.ob (Nat.le_refl _)
 ·rcases hnew with e|e
  ·rw[e];exact h.tm
  ·rw[e];exact ne_comm' (Pza h1.om (Nat.le_refl _))
theorem Mach.pushback (h:Mach w0 w g C s en B T M) {W w1:World} (hW:Below w.heap.size w W) {g' cap:Nat} {x:Nat} {n':Nat} (hown:w1.ownsRow w0.heap.size 3 1 (.slice (some ⟨g',0,none⟩) n' cap) n' (Bzi s.back++ [natV x])) (hn:n'=s.back.length+1)
  (hgrow:W.grownBy w1 B.ownBlock) (hat:B.ownBlock=some g'∨g'=W.heap.size):
  Mach w0 (w1.setCell ⟨g,2,none⟩ (.slice (some ⟨g',0,none⟩) n' cap)) g C { s with back:=s.back++ [x] } en (.slice (some ⟨g',0,none⟩) n' cap) T M:=by
 have h1:=h.later hW;have hgw:W.heap.size≤w1.heap.size:=hgrow.size;have kt:=h1.ot.kept hgrow (ne_comm' h1.bt);have km:=h1.om.kept hgrow (ne_comm' h1.bm);have kk:=h1.blk.grown hgrow (fun e=>Az9 h1.ob h1.blk (by decide) e.symm);have hnew:(Value.slice (some ⟨g',0,none⟩) n' cap).ownBlock=B.ownBlock∨(Value.slice (some ⟨g',0,none⟩) n' cap).ownBlock=some W.heap.size:=by
  rcases hat with e|e
  ·exact .inl (by rw[e];rfl)
  ·exact .inr (by rw[←e];rfl)
 generalize hv:Value.slice (some ⟨g',0,none⟩) n' cap=B' at*;have kp:∀ {V:Value} {n:Nat} {xs:List Value},w1.ownsRow w0.heap.size 3 1 V n xs→(w1.setCell ⟨g,2,none⟩ B').ownsRow w0.heap.size 3 1 V n xs:=fun ho=>ho.kept (set_grown' 2 B') (.inr (Az9 ho kk (by decide)))
 refine⟨?_,h.lo,?_,?_,kp kt,kp km,?_,?_,h.tm⟩
 ·exact(h1.below.grown hgrow h1.below.size (fun q hq=>(h1.ob.lt q hq).1)).setCell (p:=⟨g,2,none⟩) h.lo _
 ·exact kk.set_ 2 B'
 ·show (w1.setCell ⟨g,2,none⟩ B').ownsRow w0.heap.size 3 1 B' (s.back++ [x]).length (Bzi (s.back++ [x]))
  rw[List.length_append,Izd];rw[hn] at hown;exact kp hown
 ·rcases hnew with e|e
  ·rw[e];exact h.bt
  ·rw[e];exact ne_comm' (Pza h1.ot (Nat.le_refl _))
 ·rcases hnew with e|e
  ·rw[e];exact h.bm
  ·rw[e];exact ne_comm' (Pza h1.om (Nat.le_refl _))
theorem Mach.popback {g' cap:Nat} (h:Mach w0 w g C s en (.slice (some ⟨g',0,none⟩) s.back.length cap) T M) (k:Nat) (hk:k≤s.back.length):
  Mach w0 (w.setCell ⟨g,2,none⟩ (.slice (some ⟨g',0,none⟩) k cap)) g C { s with back:=s.back.take k } en (.slice (some ⟨g',0,none⟩) k cap) T M:=by
 have kp:∀ {V:Value} {n:Nat} {xs:List Value},w.ownsRow w0.heap.size 3 1 V n xs→(w.setCell ⟨g,2,none⟩ (.slice (some ⟨g',0,none⟩) k cap)).ownsRow w0.heap.size 3 1 V n xs:=fun ho=>ho.kept (set_grown' 2 _) (.inr (Az9 ho h.blk (by decide)))
 refine⟨h.below.setCell (p:=⟨g,2,none⟩) h.lo _,h.lo,h.blk.set_ 2 _,?_,kp h.ot,kp h.om,h.bt,h.bm,h.tm⟩;have:=kp (Pzj h.ob k hk);rw[show (s.back.take k).length=k by rw[List.length_take];omega,Bzi, ←List.map_take] at*;exact this
end
def Cz0 (l:List Ins) (regs mem:List Int) (fuel:Int):Int:=
 if check l=0 then (if 1024<mem.length then 1 else if fuel<0∨20000<fuel∨(regs++mem).any oddW=true then 2 else 0) else check l
def toMc (regs mem:List Int):Mc:=⟨0,[],regs.map Int.toNat,[],mem.map Int.toNat⟩
def Dzp (l:List Ins) (regs mem:List Int) (fuel:Int):Mc × Nat:=
 if Cz0 l regs mem fuel=0 then runs l fuel.toNat (toMc regs mem) else (⟨0,[],[0,0,0,0,0,0,0,0],[],[]⟩,0)
def outV (en:Nat) (r:List Nat) (T M:Value):Value:=
 .agg #[natV en,natV (r.getD 0 0),natV (r.getD 1 0),natV (r.getD 2 0),natV (r.getD 3 0),natV (r.getD 4 0),natV (r.getD 5 0),natV (r.getD 6 0),natV (r.getD 7 0),T,M]
def layL (b:Nat):World→Nat→List Value→World
 | w,_,[]=>w
 | w,k,u::r=>layL b (w.setCell ⟨b,k,none⟩ u) (k+1) r
theorem Bzu {B b:Nat} {a:World} (hb:B≤b):∀ (us:List Value) (k:Nat) (w:World),Below B a w→Below B a (layL b w k us)
 | [],_,_,h=>h
 | u::r,k,_,h=>Bzu hb r (k+1) _ (h.setCell (p:=⟨b,k,none⟩) hb u)
theorem Czl (b:Nat):∀ (us:List Value) (k:Nat) (w:World),w.grownBy (layL b w k us) (some b)
 | [],_,w=>World.grownBy.refl w _
 | u::r,k,_=>(set_grown' k u).trans (Czl b r (k+1) _)
def RunPost (w:World) (r:Mc × Nat) (err:Int) (e:Ending) (w':World):Prop:=
 ∃ T M,e= .returned (.tuple #[outV r.2 r.1.regs T M, .int .i64 err])∧w'.ownsRow w.heap.size 3 1 T r.1.told.length (Bzi r.1.told)∧w'.ownsRow w.heap.size 3 1 M r.1.mem.length (Bzi r.1.mem)∧Below w.heap.size w w'
theorem RunPost.no {w w':World} {l:List Ins} {regs mem:List Int} {fuel n:Int} {e:Ending} (hn:Cz0 l regs mem fuel=n) (h0:n≠0)
  (he:e= .returned (.tuple #[.agg #[.int .i64 0, .int .i64 0, .int .i64 0, .int .i64 0, .int .i64 0, .int .i64 0, .int .i64 0, .int .i64 0, .int .i64 0, .slice none 0 0, .slice none 0 0], .int .i64 n])) (hb:Below w.heap.size w w'):
  RunPost w (Dzp l regs mem fuel) (Cz0 l regs mem fuel) e w':=by
 unfold Dzp;rw[hn,if_neg h0];exact⟨_,_,he,World.ownsRow_nil _ _ _ _,World.ownsRow_nil _ _ _ _,hb⟩
theorem Gz8 (w:World) (r0 r1 r2 r3 r4 r5 r6 r7:Int):∃ V,(w.alloc (.cells #[.int .i64 r0, .int .i64 r1, .int .i64 r2, .int .i64 r3, .int .i64 r4, .int .i64 r5, .int .i64 r6, .int .i64 r7] 204)).alloc (.cells #[.int .i64 0, .int .i64 0, .int .i64 0, .int .i64 0, .int .i64 0, .int .i64 0, .int .i64 0, .int .i64 0, .int .i64 0, .slice none 0 0, .slice none 0 0] 208)=V∧Below w.heap.size w V∧Blk V w.heap.size 204 #[.int .i64 r0, .int .i64 r1, .int .i64 r2, .int .i64 r3, .int .i64 r4, .int .i64 r5, .int .i64 r6, .int .i64 r7]∧Blk V (w.heap.size+1) 208 #[.int .i64 0, .int .i64 0, .int .i64 0, .int .i64 0, .int .i64 0, .int .i64 0, .int .i64 0, .int .i64 0, .int .i64 0, .slice none 0 0, .slice none 0 0]:=
 ⟨_,rfl,((Below.refl _ _).alloc (Nat.le_refl _) _).alloc (by simp) _,(Blk.new w _ _).alloc _,Blk.new' (by simp)⟩
end Go.Proofs.YtdjamdbamkhblacDoor
