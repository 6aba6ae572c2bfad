/- The drawn region of the kernel's by that makes a process of another's ends. No condition. By an AI agent (xbyf.py). The machine in memory, and the walks of its small functions: no condition. The machine under way in memory: its block and its three rows, and how each step keeps them: no condition. What a run of the machine returns, in memory: the words that cpu.Run's and the reference's walks speak. No condition. A run's outcome in memory. No condition. By an AI agent (xask.py). The walk of the kernel's by: fork, exit. No condition. By an AI agent (xby.py). -/
import Derived.Test.YtdjamdbamkhblacGreatDoorG12
set_option maxHeartbeats 8000000
set_option maxRecDepth 1000000
namespace Go.Proofs.YtdjamdbamkhblacGreatDoor
open Go.RowKit
set_option linter.unusedVariables false
set_option linter.unusedSimpArgs false
structure BFJ (w0:World) (bw g b4 c4 be c p q:Nat) (xs:List Value) (u0 u1:Value) (t0t t1t t2t t3t t4t t5t t6t t7t t8t t9t t10t t11t t12t t13t:Bool) (W:World) (y139 y140 y141 y142 y143 y144 y145 y146 y147 y148 y149 y150 y151:Value):Prop where
 f0:t0t=true→y139= .pointer (some ⟨bw,0,none⟩)
 f1:t1t=true→y140= .pointer (some ⟨g,0,none⟩)
 f2:t2t=true→y141= .pointer (some ⟨g,0,none⟩)
 f3:t3t=true→y142= .pointer (some ⟨g,4,none⟩)
 f4:t4t=true→y143= .slice (some ⟨b4,0,none⟩) 4 c4
 f5:t5t=true→y144= .int .i64 (q:Int)
 f6:t6t=true→y145= .pointer (some ⟨b4,p*2,none⟩)
 f7:t7t=true→y146= .pointer (some ⟨b4,p*2,none⟩)
 f8:t8t=true→y147= .pointer (some ⟨b4,p*2+1,none⟩)
 f9:t9t=true→y148= .slice (some ⟨be,0,none⟩) 6 c
 f10:t10t=true→∃ s:Value,y149=s∧(t13t=false→W.ownsRow w0.heap.size 54 3 s 6 xs)
 f11:t11t=true→∃ s:Value,y150= .agg #[.bool true,s]∧(t13t=false→W.ownsRow w0.heap.size 54 3 s 6 xs)
 f12:t12t=true→y151= .pointer (some ⟨b4,q*2,none⟩)
 f13:t13t=true→∃ (V:Value) (W1:World),Below w0.heap.size w0 W1∧W1.ownsRow w0.heap.size 54 3 V 6 xs∧W=(W1.setCell ⟨b4,q*2,none⟩ (.bool true)).setCell ⟨b4,q*2+1,none⟩ V
 q13_1:t13t=true→t1t=true
 q13_4:t13t=true→t4t=true
 q13_9:t13t=true→t9t=true
 q13_10:t13t=true→t10t=true
 q13_11:t13t=true→t11t=true
 w:t13t=false→Below w0.heap.size w0 W
noncomputable def Qzn:Code:=((Tryz.f19.body.bind (Czf 40)).getD .skip)
theorem Szg (w0:World) (bw g b4 c4 be c p q:Nat) (xs:List Value) (u0 u1:Value) {v0 v2 v4 v5 v6 v7 v8 v9 v10 v11 v12 v13 v15 v16 v17 v18 v19 v20 v21 v22 v23 v24 v25 v26 v27 v28 v29 v30 v31 v32 v33 v34 v35 v36 v37 v38 v39 v40 v41 v42 v43 v44 v45 v46 v47 v48 v49 v50 v51 v52 v53 v54 v55 v56 v57 v58 v59 v60 v61 v62 v63 v64 v65 v66 v67 v68 v69 v70 v71 v72 v73 v74 v75 v76 v77 v78 v79 v80 v81 v82 v83 v84 v85 v86 v87 v88 v89 v90 v91 v92 v93 v94 v95 v96 v97 v98 v99 v100 v101 v102 v103 v104 v105 v106 v107 v108 v109 v110 v111 v112 v113 v114 v115 v116 v117 v118 v119 v120 v121 v122 v123 v124 v125 v126 v127 v128 v129 v130 v131 v132 v133 v134 v135 v136 v137 v138 v139 v140 v141 v142 v143 v144 v145 v146 v147 v148 v149 v150 v151 v152 v153 v154 v155 v156 v157 v158 v159 v160 v161 v162 v163 v164 v165 v166 v167 v168 v169 v170 v171 v172 v173 v174 v175 v176 v177 v178 v179 v180 v181 v182 v183 v184 v185 v186 v187 v188 v189 v190 v191 v192 v193 v194 v195 v196 v197 v198 v199 v200 v201 v202 v203 v204 v205 v206 v207 v208 v209 v210 v211 v212 v213 v214 v215 v216 v217 v218 v219 v220 v221 v222 v223 v224 v225 v226 v227 v228 v229 v230 v231 v232 v233 v234 v235 v236 v237 v238 v239 v240 v241 v242 v243 v244 v245 v246 v247 v248 v249 v250 v251 v252:Value} (wr:World) (Q:Exit→Act→World→Prop) (hbs:Below w0.heap.size w0 wr.drew) (hlw:bw<w0.heap.size) (hw0:w0.cell? ⟨bw,0,none⟩=some (.pointer (some ⟨g,0,none⟩))) (hlg:g<w0.heap.size) (hg4:w0.cell? ⟨g,4,none⟩=some (.slice (some ⟨b4,0,none⟩) 4 c4)) (hlb:b4<w0.heap.size) (hp1:w0.cell? ⟨b4,p*2+1,none⟩=some (.slice (some ⟨be,0,none⟩) 6 c)) (hc0:w0.cell? ⟨b4,q*2,none⟩=some (u0)) (hc1:w0.cell? ⟨b4,q*2+1,none⟩=some (u1)) (hf0:w0.frozen? ⟨b4,q*2,none⟩=false) (hf1:w0.frozen? ⟨b4,q*2+1,none⟩=false) (hq:q<4) (hcall:∀ W:World,Below w0.heap.size w0 W→Calls Tryz.prog 46 #[.slice (some ⟨be,0,none⟩) 6 c] W fun e w'=>∃ V,e= .returned V∧w'.ownsRow W.heap.size 54 3 V 6 xs∧Below W.heap.size W w')
  (hQ:∀ (listed:Array Bool) (W:World) (y139 y140 y141 y142 y143 y144 y145 y146 y147 y148 y149 y150 y151:Value),(∀ i,i<14→listed.getD i true=true)→BFJ w0 bw g b4 c4 be c p q xs u0 u1 (listed.getD 0 true) (listed.getD 1 true) (listed.getD 2 true) (listed.getD 3 true) (listed.getD 4 true) (listed.getD 5 true) (listed.getD 6 true) (listed.getD 7 true) (listed.getD 8 true) (listed.getD 9 true) (listed.getD 10 true) (listed.getD 11 true) (listed.getD 12 true) (listed.getD 13 true) W y139 y140 y141 y142 y143 y144 y145 y146 y147 y148 y149 y150 y151→Q .normal ⟨#[v0, .pointer (some ⟨b4,p*2,none⟩),v2, .pointer (some ⟨bw,0,none⟩),v4,v5,v6,v7,v8,v9,v10,v11,v12,v13, .int .i64 (q:Int),v15,v16,v17,v18,v19,v20,v21,v22,v23,v24,v25,v26,v27,v28,v29,v30,v31,v32,v33,v34,v35,v36,v37,v38,v39,v40,v41,v42,v43,v44,v45,v46,v47,v48,v49,v50,v51,v52,v53,v54,v55,v56,v57,v58,v59,v60,v61,v62,v63,v64,v65,v66,v67,v68,v69,v70,v71,v72,v73,v74,v75,v76,v77,v78,v79,v80,v81,v82,v83,v84,v85,v86,v87,v88,v89,v90,v91,v92,v93,v94,v95,v96,v97,v98,v99,v100,v101,v102,v103,v104,v105,v106,v107,v108,v109,v110,v111,v112,v113,v114,v115,v116,v117,v118,v119,v120,v121,v122,v123,v124,v125,v126,v127,v128,v129,v130,v131,v132,v133,v134,v135,v136,v137,v138,y139,y140,y141,y142,y143,y144,y145,y146,y147,y148,y149,y150,y151,v152,v153,v154,v155,v156,v157,v158,v159,v160,v161,v162,v163,v164,v165,v166,v167,v168,v169,v170,v171,v172,v173,v174,v175,v176,v177,v178,v179,v180,v181,v182,v183,v184,v185,v186,v187,v188,v189,v190,v191,v192,v193,v194,v195,v196,v197,v198,v199,v200,v201,v202,v203,v204,v205,v206,v207,v208,v209,v210,v211,v212,v213,v214,v215,v216,v217,v218,v219,v220,v221,v222,v223,v224,v225,v226,v227,v228,v229,v230,v231,v232,v233,v234,v235,v236,v237,v238,v239,v240,v241,v242,v243,v244,v245,v246,v247,v248,v249,v250,v251,v252],[]⟩ W):
  Code.wp Tryz.prog Qzn Q ⟨#[v0, .pointer (some ⟨b4,p*2,none⟩),v2, .pointer (some ⟨bw,0,none⟩),v4,v5,v6,v7,v8,v9,v10,v11,v12,v13, .int .i64 (q:Int),v15,v16,v17,v18,v19,v20,v21,v22,v23,v24,v25,v26,v27,v28,v29,v30,v31,v32,v33,v34,v35,v36,v37,v38,v39,v40,v41,v42,v43,v44,v45,v46,v47,v48,v49,v50,v51,v52,v53,v54,v55,v56,v57,v58,v59,v60,v61,v62,v63,v64,v65,v66,v67,v68,v69,v70,v71,v72,v73,v74,v75,v76,v77,v78,v79,v80,v81,v82,v83,v84,v85,v86,v87,v88,v89,v90,v91,v92,v93,v94,v95,v96,v97,v98,v99,v100,v101,v102,v103,v104,v105,v106,v107,v108,v109,v110,v111,v112,v113,v114,v115,v116,v117,v118,v119,v120,v121,v122,v123,v124,v125,v126,v127,v128,v129,v130,v131,v132,v133,v134,v135,v136,v137,v138,v139,v140,v141,v142,v143,v144,v145,v146,v147,v148,v149,v150,v151,v152,v153,v154,v155,v156,v157,v158,v159,v160,v161,v162,v163,v164,v165,v166,v167,v168,v169,v170,v171,v172,v173,v174,v175,v176,v177,v178,v179,v180,v181,v182,v183,v184,v185,v186,v187,v188,v189,v190,v191,v192,v193,v194,v195,v196,v197,v198,v199,v200,v201,v202,v203,v204,v205,v206,v207,v208,v209,v210,v211,v212,v213,v214,v215,v216,v217,v218,v219,v220,v221,v222,v223,v224,v225,v226,v227,v228,v229,v230,v231,v232,v233,v234,v235,v236,v237,v238,v239,v240,v241,v242,v243,v244,v245,v246,v247,v248,v249,v250,v251,v252],[]⟩ wr:=by
 have HQ:=Lib.hid hQ;clear hQ;conv=>arg 2;whnf
 refine Azj (fun listed a W=>∃ y139 y140 y141 y142 y143 y144 y145 y146 y147 y148 y149 y150 y151,BFJ w0 bw g b4 c4 be c p q xs u0 u1 (listed.getD 0 true) (listed.getD 1 true) (listed.getD 2 true) (listed.getD 3 true) (listed.getD 4 true) (listed.getD 5 true) (listed.getD 6 true) (listed.getD 7 true) (listed.getD 8 true) (listed.getD 9 true) (listed.getD 10 true) (listed.getD 11 true) (listed.getD 12 true) (listed.getD 13 true) W y139 y140 y141 y142 y143 y144 y145 y146 y147 y148 y149 y150 y151∧a=⟨#[v0, .pointer (some ⟨b4,p*2,none⟩),v2, .pointer (some ⟨bw,0,none⟩),v4,v5,v6,v7,v8,v9,v10,v11,v12,v13, .int .i64 (q:Int),v15,v16,v17,v18,v19,v20,v21,v22,v23,v24,v25,v26,v27,v28,v29,v30,v31,v32,v33,v34,v35,v36,v37,v38,v39,v40,v41,v42,v43,v44,v45,v46,v47,v48,v49,v50,v51,v52,v53,v54,v55,v56,v57,v58,v59,v60,v61,v62,v63,v64,v65,v66,v67,v68,v69,v70,v71,v72,v73,v74,v75,v76,v77,v78,v79,v80,v81,v82,v83,v84,v85,v86,v87,v88,v89,v90,v91,v92,v93,v94,v95,v96,v97,v98,v99,v100,v101,v102,v103,v104,v105,v106,v107,v108,v109,v110,v111,v112,v113,v114,v115,v116,v117,v118,v119,v120,v121,v122,v123,v124,v125,v126,v127,v128,v129,v130,v131,v132,v133,v134,v135,v136,v137,v138,y139,y140,y141,y142,y143,y144,y145,y146,y147,y148,y149,y150,y151,v152,v153,v154,v155,v156,v157,v158,v159,v160,v161,v162,v163,v164,v165,v166,v167,v168,v169,v170,v171,v172,v173,v174,v175,v176,v177,v178,v179,v180,v181,v182,v183,v184,v185,v186,v187,v188,v189,v190,v191,v192,v193,v194,v195,v196,v197,v198,v199,v200,v201,v202,v203,v204,v205,v206,v207,v208,v209,v210,v211,v212,v213,v214,v215,v216,v217,v218,v219,v220,v221,v222,v223,v224,v225,v226,v227,v228,v229,v230,v231,v232,v233,v234,v235,v236,v237,v238,v239,v240,v241,v242,v243,v244,v245,v246,v247,v248,v249,v250,v251,v252],[]⟩) (by kernel_rfl) (Czi (by kernel_rfl)) ?start ?step ?fin
 case start=>
  refine⟨_,_,_,_,_,_,_,_,_,_,_,_,_,?_,rfl⟩;constructor
  all_goals first|exact fun _=>hbs|exact fun _=>rfl|exact fun h=>absurd h (by decide)
 case step=>
  intro i o ho listed a W hl haf hI K hK;obtain⟨y139,y140,y141,y142,y143,y144,y145,y146,y147,y148,y149,y150,y151,hJ,rfl⟩:=hI;have hK:=fun (W':World) z139 z140 z141 z142 z143 z144 z145 z146 z147 z148 z149 z150 z151 h=>hK _ W' ⟨z139,z140,z141,z142,z143,z144,z145,z146,z147,z148,z149,z150,z151,h,rfl⟩
  simp only[Az2] at hK;have hi:i<14:=(Array.getElem?_eq_some_iff.1 ho).1;have h16:i=0∨i=1∨i=2∨i=3∨i=4∨i=5∨i=6∨i=7∨i=8∨i=9∨i=10∨i=11∨i=12∨i=13:=by omega
  rcases h16 with rfl|rfl|rfl|rfl|rfl|rfl|rfl|rfl|rfl|rfl|rfl|rfl|rfl|rfl
  all_goals
   have ho:=Option.some.inj ho;subst ho
   try simp[Region.binds] at haf
  ·
    go_simp;apply hK;exact { hJ with f0:=fun _=>rfl }
  ·
    obtain rfl:=hJ.f0 (Az0 (by simp[haf]));have h13:=nlR hJ.q13_1 hl;have hw:=hJ.w h13;have e1:=(hw.cell (p:=⟨bw,0,none⟩) hlw).trans hw0;go_simp;apply hK;exact { hJ with f1:=fun _=>rfl,q13_1:=fun _=>rfl }
  ·
    obtain rfl:=hJ.f1 (Az0 (by simp[haf]));go_simp;apply hK;exact { hJ with f2:=fun _=>rfl }
  ·
    obtain rfl:=hJ.f2 (Az0 (by simp[haf]));go_simp;apply hK;exact { hJ with f3:=fun _=>rfl }
  ·
    obtain rfl:=hJ.f3 (Az0 (by simp[haf]));have h13:=nlR hJ.q13_4 hl;have hw:=hJ.w h13;have e1:=(hw.cell (p:=⟨g,4,none⟩) hlg).trans hg4;go_simp;apply hK;exact { hJ with f4:=fun _=>rfl,q13_4:=fun _=>rfl }
  ·
    go_simp;apply hK;exact { hJ with f5:=fun _=>rfl }
  ·
    go_simp;apply hK;exact { hJ with f6:=fun _=>rfl }
  ·
    obtain rfl:=hJ.f6 (Az0 (by simp[haf]));go_simp;apply hK;exact { hJ with f7:=fun _=>rfl }
  ·
    obtain rfl:=hJ.f7 (Az0 (by simp[haf]));go_simp;apply hK;exact { hJ with f8:=fun _=>rfl }
  ·
    obtain rfl:=hJ.f8 (Az0 (by simp[haf]));have h13:=nlR hJ.q13_9 hl;have hw:=hJ.w h13;have e1:=(hw.cell (p:=⟨b4,p*2+1,none⟩) hlb).trans hp1;go_simp;apply hK;exact { hJ with f9:=fun _=>rfl,q13_9:=fun _=>rfl }
  ·
    obtain rfl:=hJ.f9 (Az0 (by simp[haf]));have h13:=nlR hJ.q13_10 hl;have hw:=hJ.w h13;have hc:=hcall W hw;go_simp;go_at_call 46;refine hc.mono ?_;rintro e' w2 ⟨V,rfl,hV,hb2⟩;apply hK;exact { hJ with f10:=fun _=>⟨V,rfl,fun _=>own_base hV hw.size⟩,f11:=fun x=>by obtain⟨s,e1,e2⟩:=hJ.f11 x;exact⟨s,e1,fun h=>own_below (e2 h) hb2⟩,f13:=fun x=>by have e:=hJ.q13_10 x;rw[hl] at e;exact absurd e (by decide),q13_10:=fun _=>rfl,w:=(fun h=>(hJ.w h).trans (hb2.mono hw.size)) }
  ·
    obtain⟨s10,rfl,hE10⟩:=hJ.f10 (Az0 (by simp[haf]));have h13:=nlR hJ.q13_11 hl;have hw:=hJ.w h13;obtain⟨AV,cV,rfl⟩:=Az1 (hE10 h13);go_simp;apply hK;exact { hJ with f11:=fun _=>⟨_,rfl,fun h=>hE10 h⟩,q13_11:=fun _=>rfl }
  ·
    obtain rfl:=hJ.f4 (Az0 (by simp[haf]));obtain rfl:=hJ.f5 (Az0 (by simp[haf]));have hq4:(q:Int)<4:=by omega
    go_simp;apply hK;exact { hJ with f12:=fun _=>rfl }
  ·
    have p11:listed.getD 11 true=true:=Az0 (by simp[haf]);have p1:listed.getD 1 true=true:=Az0 (by simp[haf]);have p4:listed.getD 4 true=true:=Az0 (by simp[haf]);have p9:listed.getD 9 true=true:=Az0 (by simp[haf]);have p10:listed.getD 10 true=true:=Az0 (by simp[haf]);obtain rfl:=hJ.f12 (Az0 (by simp[haf]));obtain⟨s11,rfl,hE11⟩:=hJ.f11 p11;obtain⟨s10,rfl,hE10⟩:=hJ.f10 p10;have hw:=hJ.w hl;have hO:=hE11 hl;obtain⟨AV,cV,rfl⟩:=Az1 hO;have hlt:b4<W.heap.size:=Nat.lt_of_lt_of_le hlb hw.size;have e0:=(hw.cell (p:=⟨b4,q*2,none⟩) hlb).trans hc0;have e1:=(hw.cell (p:=⟨b4,q*2+1,none⟩) hlb).trans hc1;have f0:=(hw.frozen (p:=⟨b4,q*2,none⟩) hlb).trans hf0;have f1:=(hw.frozen (p:=⟨b4,q*2+1,none⟩) hlb).trans hf1;go_simp;apply hK;exact { hJ with f10:=fun x=>by obtain⟨s,e1,e2⟩:=hJ.f10 x;exact⟨s,e1,tfR⟩,f11:=fun x=>by obtain⟨s,e1,e2⟩:=hJ.f11 x;exact⟨s,e1,tfR⟩,f13:=fun _=>⟨_,W,hw,hO,rfl⟩,q13_1:=fun _=>p1,q13_4:=fun _=>p4,q13_9:=fun _=>p9,q13_10:=fun _=>p10,q13_11:=fun _=>p11,w:=tfR }
 case fin=>
  intro listed a W hall hI;obtain⟨y139,y140,y141,y142,y143,y144,y145,y146,y147,y148,y149,y150,y151,hJ,rfl⟩:=hI;exact HQ.out listed W _ _ _ _ _ _ _ _ _ _ _ _ _ hall hJ
theorem Fzm (n:Int):bits .and .i64 n 65535=n % 65536:=by
 have hm:(BitVec.ofInt 64 65535).toNat=2 ^ 16 - 1:=by decide
 have key:(BitVec.ofInt 64 n &&& BitVec.ofInt 64 65535).toNat=(n % ((2 ^ 64:Nat):Int)).toNat % 2 ^ 16:=by
  rw[BitVec.toNat_and,BitVec.toNat_ofInt,hm,Nat.and_two_pow_sub_one_eq_mod]
 show IntKind.i64.wrap ((BitVec.ofInt 64 n &&& BitVec.ofInt 64 65535).toNat:Nat)=n % 65536;rw[key,IntKind.wrap_i64];omega
theorem Dzo (a b:Nat) (ha:a≤65535) (hb:b≤65535):bits .and .i64 (a:Int) (b:Int)=((a &&& b:Nat):Int):=by
 have hx:a &&& b<2 ^ 16:=Nat.and_lt_two_pow _ (by omega);show IntKind.i64.wrap ((BitVec.ofInt 64 (a:Int) &&& BitVec.ofInt 64 (b:Int)).toNat:Int)=_;rw[BitVec.toNat_and,ofInt_u64 a (by omega),ofInt_u64 b (by omega),IntKind.wrap_i64];omega
theorem Ez0 (a b:Nat) (ha:a≤65535) (hb:b≤65535):bits .or .i64 (a:Int) (b:Int)=((a |||b:Nat):Int):=by
 have hx:a |||b<2 ^ 16:=Nat.or_lt_two_pow (by omega) (by omega);show IntKind.i64.wrap ((BitVec.ofInt 64 (a:Int) |||BitVec.ofInt 64 (b:Int)).toNat:Int)=_;rw[BitVec.toNat_or,ofInt_u64 a (by omega),ofInt_u64 b (by omega),IntKind.wrap_i64];omega
theorem Fzn (a b:Nat) (ha:a≤65535) (hb:b≤65535):bits .xor .i64 (a:Int) (b:Int)=((a ^^^ b:Nat):Int):=by
 have hx:a ^^^ b<2 ^ 16:=Nat.xor_lt_two_pow (by omega) (by omega);show IntKind.i64.wrap ((BitVec.ofInt 64 (a:Int) ^^^ BitVec.ofInt 64 (b:Int)).toNat:Int)=_;rw[BitVec.toNat_xor,ofInt_u64 a (by omega),ofInt_u64 b (by omega),IntKind.wrap_i64];omega
theorem Pzz (n:Int) (w:World):Calls Tryz.prog 105 #[.int .i64 n] w fun e w'=>e= .returned (.bool (!oddW n))∧w=w':=by
 by_cases h1:0≤n
 ·go_enter Tryz.func105,Tryz.ntmps105
  go_wp2;go_ret;refine⟨Az9 ?_,rfl⟩;rw[Bool.eq_iff_iff];simp[oddW];omega
 ·have h2:n<0:=by omega
  go_enter Tryz.func105,Tryz.ntmps105;go_wp2;go_ret;refine⟨Az9 ?_,rfl⟩;rw[Bool.eq_iff_iff];simp[oddW];omega
theorem Kzf (n:Int) (w:World):Calls Tryz.prog 104 #[.int .i64 n] w fun e w'=>e= .returned (.bool (oddW n))∧w=w':=by
 go_enter Tryz.func104,Tryz.ntmps104;go_wp2_with (go_at_call 105;refine(Pzz _ _).mono ?_;rintro e w' ⟨rfl,rfl⟩);go_ret;exact⟨Az9 (by simp),rfl⟩
theorem Gzt:∀ args w,(callFunc 104 args).run Tryz.prog w= .ok (.enter 104 args) w:=fun args w=>by
 simp only[callFunc,run_program,Sem.run_bind,Result.andThen_ok,Tryz.func104];rfl
theorem Ozd (b:Bool) (w:World):Calls Tryz.prog 111 #[.bool b] w fun e w'=>e= .returned (.int .i64 (if b then 1 else 0))∧w=w':=by
 cases b
 all_goals
  go_enter Tryz.func111,Tryz.ntmps111;go_wp2;go_ret;exact⟨rfl,rfl⟩
def natV (n:Nat):Value:= .int .i64 (n:Int)
def Azr (C:Value) (pos:Nat) (B:Value) (en:Nat) (r:List Nat) (T M:Value):Array Value:=
 #[C,natV pos,B,natV en,natV (r.getD 0 0),natV (r.getD 1 0),natV (r.getD 2 0),natV (r.getD 3 0),natV (r.getD 4 0),natV (r.getD 5 0),natV (r.getD 6 0),natV (r.getD 7 0),T,M]
theorem Fzp {C B T M:Value} {pos en:Nat} {r:List Nat} (k:Nat) (hk:k≤7):(Azr C pos B en r T M)[4+k]? =some (natV (r.getD k 0)):=by
 match k,hk with
 | 0,_=>rfl
 | 1,_=>rfl
 | 2,_=>rfl
 | 3,_=>rfl
 | 4,_=>rfl
 | 5,_=>rfl
 | 6,_=>rfl
 | 7,_=>rfl
 | k+8,h=>omega
theorem Szn {C B T M:Value} {pos en:Nat} {r:List Nat} (hr:r.length=8) (k:Nat) (hk:k≤7) (v:Nat):(Azr C pos B en r T M).setIfInBounds (4+k) (natV v)=Azr C pos B en (r.set k v) T M:=by
 match r,hr with
 | [a0,a1,a2,a3,a4,a5,a6,a7],_=>
   match k,hk with
   | 0,_=>rfl
   | 1,_=>rfl
   | 2,_=>rfl
   | 3,_=>rfl
   | 4,_=>rfl
   | 5,_=>rfl
   | 6,_=>rfl
   | 7,_=>rfl
   | k+8,h=>omega
theorem Mza (g:Nat) (cs:Array Value) (i:Ins) (x y:Nat) (w:World) (hB:Blk w g 140 cs) (hi:InsOk i) (ho:¬ (8≤i.op))
  (hx:cs[4+i.b.toNat]? =some (natV x)) (hy:cs[4+(i.c % 8).toNat]? =some (natV y)) (hxw:x≤65535) (hyw:y≤65535):
  Calls Tryz.prog 110 #[.pointer (some ⟨g,0,none⟩),i.val] w fun e w'=>e= .returned (.int .i64 (reck x y i.op.toNat i.c.toNat:Nat))∧Below w.heap.size w w':=by
 obtain⟨o1,o2,a0,a7,b0,b7,c0,cw,c7⟩:=hi;obtain⟨o,a,b,c⟩:=i;simp only at o1 o2 a0 a7 b0 b7 c0 cw c7 ho hx hy ⊢;unfold Ins.val;simp only;obtain⟨bn,rfl⟩:∃ n:Nat,b=(n:Int):=⟨b.toNat,by omega⟩;obtain⟨cn,rfl⟩:∃ n:Nat,c=(n:Int):=⟨c.toNat,by omega⟩;have hc8:((cn:Int) % 8).toNat=cn % 8:=by omega
 rw[hc8] at hy;have e1:=(hB.cell (4+bn)).trans hx;have e2:=(hB.cell (4+cn % 8)).trans hy;have hg:=hB.lt;unfold natV at e1 e2;have hcm:((cn:Int) % 8)=((cn % 8:Nat):Int):=by omega
 have hm7:cn % 8≤7:=by omega
 have HC:=Lib.hid hcm;clear hcm hc8 hx hy hB;have hbn:(bn:Int)<8:=by omega
 have hcn:(cn:Int) % 8<8:=by omega
 have hcn0:0≤(cn:Int) % 8:=by omega
 have hcr:(cn:Int).tmod 8=(cn % 8:Nat):=by rw[Int.tmod_eq_emod_of_nonneg (by omega)];omega
 go_enter Tryz.func110,Tryz.ntmps110;go_wp2;go_quiet (fail);go_wp2_with (go_at_call 111;refine(Ozd _ _).mono ?_;rintro e w' ⟨rfl,rfl⟩)
 all_goals go_ret
 all_goals refine⟨Az8 ?_,Below.drewN' ((Below.refl _ _).alloc (Nat.le_refl _) _) _⟩
 all_goals simp only[beq_iff_eq,beq_eq_false_iff_ne] at*
 ·obtain rfl:o=2:=by assumption
  rw[Fzm];show _=(((x+y) % 65536:Nat):Int);omega
 ·obtain rfl:o=3:=by assumption
  rw[Fzm];show _=(((x+65536 - y) % 65536:Nat):Int);omega
 all_goals first
  | (obtain rfl:o=4:=by assumption
     rw[Dzo x y hxw hyw];rfl)
  | (obtain rfl:o=5:=by assumption
     rw[Ez0 x y hxw hyw];rfl)
  | (obtain rfl:o=6:=by assumption
     rw[Fzn x y hxw hyw];rfl)
  | (obtain rfl:o=7:=by assumption
     show _=(((if x<y then 1 else 0):Nat):Int)
     first|(rw[if_pos (by assumption)];rfl)|(rw[if_neg (by omega)];rfl))
  | (obtain rfl:o=1:=by omega
     rfl)
def Azx (l:List Nat):List Value:=l.map natV
theorem Ezi (a b:List Nat):Azx (a++b)=Azx a++Azx b:=by simp[Azx]
theorem Ezj {l:List Nat} {k:Nat} (h:k<l.length):(Azx l)[k]? =some (natV (l.getD k 0)):=by
 simp[Azx,h]
theorem Izw (l:List Nat) (k v:Nat):Azx (l.set k v)=(Azx l).set k (natV v):=by simp[Azx,List.map_set]
theorem Nzr {w:World} {base n:Nat} {e:TypeId} {V:Value} {xs:List Value} {g:Nat} (h:w.ownsRow base e 1 V n xs) (hg:V.ownBlock=some g) (k:Nat) (u:Value):
  (w.setCell ⟨g,k,none⟩ u).ownsRow base e 1 V n (xs.set k u):=by
 refine⟨by rw[List.length_set];exact h.1,?_⟩;rcases h.2 with⟨rfl,_⟩|⟨g',cap,cur,rfl,hb,hh,hc,hz,hs,hx⟩
 ·simp[Value.ownBlock] at hg
 ·have e':g'=g:=by simpa [Value.ownBlock] using hg
  subst e';have hl:=h.1;refine .inr ⟨g',cap,cur.setIfInBounds k u,rfl,hb,?_,hc,hz,by simpa using hs,?_⟩
  ·exact Blk.set_ (cs:=cur) hh k u
  ·rw[←hx,Array.toList_setIfInBounds,List.take_set]
theorem Lz9 {w:World} {base n cap g:Nat} {e:TypeId} {xs:List Value} (h:w.ownsRow base e 1 (.slice (some ⟨g,0,none⟩) n cap) n xs) (k:Nat) (hk:k≤n):
  w.ownsRow base e 1 (.slice (some ⟨g,0,none⟩) k cap) k (xs.take k):=by
 have hl:=h.1;refine⟨by rw[List.length_take];omega,?_⟩;rcases h.2 with⟨h0,_⟩|⟨g',cap',cur,hv,hb,hh,hc,hz,hs,hx⟩
 ·cases h0
 ·injection hv with e1 e2 e3
  injection e1 with e1
  injection e1 with e1
  subst e1 e3;refine .inr ⟨g,cap,cur,rfl,hb,hh,by omega,hz,hs,?_⟩;rw[←hx,List.take_take,Nat.min_eq_left (by omega),Nat.mul_one]
theorem set_grown' {w:World} {g:Nat} (k:Nat) (u:Value):w.grownBy (w.setCell ⟨g,k,none⟩ u) (some g):=Bzg w ⟨g,k,none⟩ u
theorem Aze (w:World) (o:Obj):Below w.heap.size w (w.alloc o):=(Below.refl _ _).alloc (Nat.le_refl _) o
structure Mach (w0 w:World) (g:Nat) (C:Value) (s:Mc) (en:Nat) (B T M:Value):Prop where
 below:Below w0.heap.size w0 w
 lo:w0.heap.size≤g
 blk:Blk w g 140 (Azr C s.pos B en s.regs T M)
 ob:w.ownsRow w0.heap.size 3 1 B s.back.length (Azx s.back)
 ot:w.ownsRow w0.heap.size 3 1 T s.told.length (Azx s.told)
 om:w.ownsRow w0.heap.size 3 1 M s.mem.length (Azx s.mem)
 bt:B.ownBlock=none∨B.ownBlock≠T.ownBlock
 bm:B.ownBlock=none∨B.ownBlock≠M.ownBlock
 tm:T.ownBlock=none∨T.ownBlock≠M.ownBlock
section
variable {w0 w:World} {g en:Nat} {C B T M:Value} {s:Mc}
theorem Mach.later (h:Mach w0 w g C s en B T M) {w':World} (hb:Below w.heap.size w w'):Mach w0 w' g C s en B T M:=
 ⟨h.below.trans (hb.mono h.below.size),h.lo,h.blk.below hb h.blk.lt,own_below h.ob hb,own_below h.ot hb,own_below h.om hb,h.bt,h.bm,h.tm⟩
theorem Mach.cellset (h:Mach w0 w g C s en B T M) (i:Nat) (u:Value) {s':Mc} {en':Nat} (hcs:(Azr C s.pos B en s.regs T M).setIfInBounds i u=Azr C s'.pos B en' s'.regs T M)
  (hb:s'.back=s.back) (ht:s'.told=s.told) (hm:s'.mem=s.mem):Mach w0 (w.setCell ⟨g,i,none⟩ u) g C s' en' B T M:=by
 have kp:∀ {V:Value} {n:Nat} {xs:List Value},w.ownsRow w0.heap.size 3 1 V n xs→(w.setCell ⟨g,i,none⟩ u).ownsRow w0.heap.size 3 1 V n xs:=fun ho=>ho.kept (set_grown' i u) (.inr (Aza ho h.blk (by decide)))
 refine⟨h.below.setCell (p:=⟨g,i,none⟩) h.lo u,h.lo,?_,?_,?_,?_,h.bt,h.bm,h.tm⟩
 ·have:=h.blk.set_ i u
  rw[hcs] at this;exact this
 ·rw[hb];exact kp h.ob
 ·rw[ht];exact kp h.ot
 ·rw[hm];exact kp h.om
theorem Mach.setpos (h:Mach w0 w g C s en B T M) (p:Nat):Mach w0 (w.setCell ⟨g,1,none⟩ (natV p)) g C { s with pos:=p } en B T M:=
 h.cellset 1 _ rfl rfl rfl rfl
theorem Mach.setend (h:Mach w0 w g C s en B T M) (p:Nat):Mach w0 (w.setCell ⟨g,3,none⟩ (natV p)) g C s p B T M:=
 h.cellset 3 _ rfl rfl rfl rfl
theorem Mach.setreg (h:Mach w0 w g C s en B T M) (hr:s.regs.length=8) (k:Nat) (hk:k≤7) (v:Nat):Mach w0 (w.setCell ⟨g,4+k,none⟩ (natV v)) g C { s with regs:=s.regs.set k v } en B T M:=
 h.cellset (4+k) _ (Szn hr k hk v) rfl rfl rfl
theorem Mach.setmem (h:Mach w0 w g C s en B T M) {q:Nat} (hq:M.ownBlock=some q) (k:Nat) (v:Nat):Mach w0 (w.setCell ⟨q,k,none⟩ (natV v)) g C { s with mem:=s.mem.set k v } en B T M:=by
 have kp:∀ {V:Value} {n:Nat} {xs:List Value},w.ownsRow w0.heap.size 3 1 V n xs→V.ownBlock=none∨V.ownBlock≠M.ownBlock→(w.setCell ⟨q,k,none⟩ (natV v)).ownsRow w0.heap.size 3 1 V n xs:=fun ho hne=>ho.kept (set_grown' k _) (by rw[←hq];exact hne)
 refine⟨h.below.setCell (p:=⟨q,k,none⟩) (h.om.lt q hq).1 _,h.lo,?_,kp h.ob h.bm,kp h.ot h.tm,?_,h.bt,h.bm,h.tm⟩
 ·exact h.blk.far (p:=⟨q,k,none⟩) (fun e=>Aza h.om h.blk (by decide) (by rw[hq,e])) _
 ·show (w.setCell ⟨q,k,none⟩ (natV v)).ownsRow w0.heap.size 3 1 M (s.mem.set k v).length (Azx (s.mem.set k v))
  rw[List.length_set,Izw];exact Nzr h.om hq k _
theorem Izv {w1:World} {base n:Nat} {e:TypeId} {V:Value} {xs:List Value} (h:w1.ownsRow base e 1 V n xs) {H:Nat} (hH:w1.heap.size≤H):V.ownBlock=none∨V.ownBlock≠some H:=by
 cases hv:V.ownBlock with
 | none=>exact .inl rfl
 | some k=>
   right;intro e;cases e
   have:=(h.lt _ hv).2;omega
theorem ne_comm' {a b:Option Nat} (h:a=none∨a≠b):b=none∨b≠a:=by
 rcases h with h|h
 ·cases b with
  | none=>exact .inl rfl
  | some k=>right;rw[h];intro e;cases e
 ·exact .inr (Ne.symm h)
theorem Mach.pushtold (h:Mach w0 w g C s en B T M) {W w1:World} (hW:Below w.heap.size w W) {g' cap:Nat} {x:Nat} {n':Nat} (hown:w1.ownsRow w0.heap.size 3 1 (.slice (some ⟨g',0,none⟩) n' cap) n' (Azx s.told++ [natV x])) (hn:n'=s.told.length+1)
  (hgrow:W.grownBy w1 T.ownBlock) (hat:T.ownBlock=some g'∨g'=W.heap.size):
  Mach w0 (w1.setCell ⟨g,12,none⟩ (.slice (some ⟨g',0,none⟩) n' cap)) g C { s with told:=s.told++ [x] } en B (.slice (some ⟨g',0,none⟩) n' cap) M:=by
 have h1:=h.later hW;have hgw:W.heap.size≤w1.heap.size:=hgrow.size;have kb:=h1.ob.kept hgrow h1.bt;have km:=h1.om.kept hgrow (ne_comm' h1.tm);have kk:=h1.blk.grown hgrow (fun e=>Aza h1.ot h1.blk (by decide) e.symm);have hnew:(Value.slice (some ⟨g',0,none⟩) n' cap).ownBlock=T.ownBlock∨(Value.slice (some ⟨g',0,none⟩) n' cap).ownBlock=some W.heap.size:=by
  rcases hat with e|e
  ·exact .inl (by rw[e];rfl)
  ·exact .inr (by rw[←e];rfl)
 generalize hv:Value.slice (some ⟨g',0,none⟩) n' cap=T' at*;have kp:∀ {V:Value} {n:Nat} {xs:List Value},w1.ownsRow w0.heap.size 3 1 V n xs→(w1.setCell ⟨g,12,none⟩ T').ownsRow w0.heap.size 3 1 V n xs:=fun ho=>ho.kept (set_grown' 12 T') (.inr (Aza ho kk (by decide)))
 refine⟨?_,h.lo,?_,kp kb,?_,kp km,?_,h.bm,?_⟩
 ·exact(h1.below.grown hgrow h1.below.size (fun q hq=>(h1.ot.lt q hq).1)).setCell (p:=⟨g,12,none⟩) h.lo _
 ·exact kk.set_ 12 T'
 ·show (w1.setCell ⟨g,12,none⟩ T').ownsRow w0.heap.size 3 1 T' (s.told++ [x]).length (Azx (s.told++ [x]))
  rw[List.length_append,Ezi];rw[hn] at hown;exact kp hown
 ·rcases hnew with e|e
  ·rw[e];exact h.bt
  ·rw[e];exact Izv h1.ob (Nat.le_refl _)
 ·rcases hnew with e|e
  ·rw[e];exact h.tm
  ·rw[e];exact ne_comm' (Izv h1.om (Nat.le_refl _))
theorem Mach.pushback (h:Mach w0 w g C s en B T M) {W w1:World} (hW:Below w.heap.size w W) {g' cap:Nat} {x:Nat} {n':Nat} (hown:w1.ownsRow w0.heap.size 3 1 (.slice (some ⟨g',0,none⟩) n' cap) n' (Azx s.back++ [natV x])) (hn:n'=s.back.length+1)
  (hgrow:W.grownBy w1 B.ownBlock) (hat:B.ownBlock=some g'∨g'=W.heap.size):
  Mach w0 (w1.setCell ⟨g,2,none⟩ (.slice (some ⟨g',0,none⟩) n' cap)) g C { s with back:=s.back++ [x] } en (.slice (some ⟨g',0,none⟩) n' cap) T M:=by
 have h1:=h.later hW;have hgw:W.heap.size≤w1.heap.size:=hgrow.size;have kt:=h1.ot.kept hgrow (ne_comm' h1.bt);have km:=h1.om.kept hgrow (ne_comm' h1.bm);have kk:=h1.blk.grown hgrow (fun e=>Aza h1.ob h1.blk (by decide) e.symm);have hnew:(Value.slice (some ⟨g',0,none⟩) n' cap).ownBlock=B.ownBlock∨(Value.slice (some ⟨g',0,none⟩) n' cap).ownBlock=some W.heap.size:=by
  rcases hat with e|e
  ·exact .inl (by rw[e];rfl)
  ·exact .inr (by rw[←e];rfl)
 generalize hv:Value.slice (some ⟨g',0,none⟩) n' cap=B' at*;have kp:∀ {V:Value} {n:Nat} {xs:List Value},w1.ownsRow w0.heap.size 3 1 V n xs→(w1.setCell ⟨g,2,none⟩ B').ownsRow w0.heap.size 3 1 V n xs:=fun ho=>ho.kept (set_grown' 2 B') (.inr (Aza ho kk (by decide)))
 refine⟨?_,h.lo,?_,?_,kp kt,kp km,?_,?_,h.tm⟩
 ·exact(h1.below.grown hgrow h1.below.size (fun q hq=>(h1.ob.lt q hq).1)).setCell (p:=⟨g,2,none⟩) h.lo _
 ·exact kk.set_ 2 B'
 ·show (w1.setCell ⟨g,2,none⟩ B').ownsRow w0.heap.size 3 1 B' (s.back++ [x]).length (Azx (s.back++ [x]))
  rw[List.length_append,Ezi];rw[hn] at hown;exact kp hown
 ·rcases hnew with e|e
  ·rw[e];exact h.bt
  ·rw[e];exact ne_comm' (Izv h1.ot (Nat.le_refl _))
 ·rcases hnew with e|e
  ·rw[e];exact h.bm
  ·rw[e];exact ne_comm' (Izv h1.om (Nat.le_refl _))
theorem Mach.popback {g' cap:Nat} (h:Mach w0 w g C s en (.slice (some ⟨g',0,none⟩) s.back.length cap) T M) (k:Nat) (hk:k≤s.back.length):
  Mach w0 (w.setCell ⟨g,2,none⟩ (.slice (some ⟨g',0,none⟩) k cap)) g C { s with back:=s.back.take k } en (.slice (some ⟨g',0,none⟩) k cap) T M:=by
 have kp:∀ {V:Value} {n:Nat} {xs:List Value},w.ownsRow w0.heap.size 3 1 V n xs→(w.setCell ⟨g,2,none⟩ (.slice (some ⟨g',0,none⟩) k cap)).ownsRow w0.heap.size 3 1 V n xs:=fun ho=>ho.kept (set_grown' 2 _) (.inr (Aza ho h.blk (by decide)))
 refine⟨h.below.setCell (p:=⟨g,2,none⟩) h.lo _,h.lo,h.blk.set_ 2 _,?_,kp h.ot,kp h.om,h.bt,h.bm,h.tm⟩;have:=kp (Lz9 h.ob k hk);rw[show (s.back.take k).length=k by rw[List.length_take];omega,Azx, ←List.map_take] at*;exact this
end
def Azv (l:List Ins) (regs mem:List Int) (fuel:Int):Int:=
 if check l=0 then (if 1024<mem.length then 1 else if fuel<0∨20000<fuel∨(regs++mem).any oddW=true then 2 else 0) else check l
def toMc (regs mem:List Int):Mc:=⟨0,[],regs.map Int.toNat,[],mem.map Int.toNat⟩
def Czq (l:List Ins) (regs mem:List Int) (fuel:Int):Mc × Nat:=
 if Azv l regs mem fuel=0 then runs l fuel.toNat (toMc regs mem) else (⟨0,[],[0,0,0,0,0,0,0,0],[],[]⟩,0)
def outV (en:Nat) (r:List Nat) (T M:Value):Value:=
 .agg #[natV en,natV (r.getD 0 0),natV (r.getD 1 0),natV (r.getD 2 0),natV (r.getD 3 0),natV (r.getD 4 0),natV (r.getD 5 0),natV (r.getD 6 0),natV (r.getD 7 0),T,M]
def layL (b:Nat):World→Nat→List Value→World
 | w,_,[]=>w
 | w,k,u::r=>layL b (w.setCell ⟨b,k,none⟩ u) (k+1) r
theorem Bz3 {B b:Nat} {a:World} (hb:B≤b):∀ (us:List Value) (k:Nat) (w:World),Below B a w→Below B a (layL b w k us)
 | [],_,_,h=>h
 | u::r,k,_,h=>Bz3 hb r (k+1) _ (h.setCell (p:=⟨b,k,none⟩) hb u)
theorem Cz7 (b:Nat):∀ (us:List Value) (k:Nat) (w:World),w.grownBy (layL b w k us) (some b)
 | [],_,w=>World.grownBy.refl w _
 | u::r,k,_=>(set_grown' k u).trans (Cz7 b r (k+1) _)
def RunPost (w:World) (r:Mc × Nat) (err:Int) (e:Ending) (w':World):Prop:=
 ∃ T M,e= .returned (.tuple #[outV r.2 r.1.regs T M, .int .i64 err])∧w'.ownsRow w.heap.size 3 1 T r.1.told.length (Azx r.1.told)∧w'.ownsRow w.heap.size 3 1 M r.1.mem.length (Azx r.1.mem)∧Below w.heap.size w w'
theorem RunPost.no {w w':World} {l:List Ins} {regs mem:List Int} {fuel n:Int} {e:Ending} (hn:Azv l regs mem fuel=n) (h0:n≠0)
  (he:e= .returned (.tuple #[.agg #[.int .i64 0, .int .i64 0, .int .i64 0, .int .i64 0, .int .i64 0, .int .i64 0, .int .i64 0, .int .i64 0, .int .i64 0, .slice none 0 0, .slice none 0 0], .int .i64 n])) (hb:Below w.heap.size w w'):
  RunPost w (Czq l regs mem fuel) (Azv l regs mem fuel) e w':=by
 unfold Czq;rw[hn,if_neg h0];exact⟨_,_,he,World.ownsRow_nil _ _ _ _,World.ownsRow_nil _ _ _ _,hb⟩
theorem Czr (w:World) (r0 r1 r2 r3 r4 r5 r6 r7:Int):∃ V,(w.alloc (.cells #[.int .i64 r0, .int .i64 r1, .int .i64 r2, .int .i64 r3, .int .i64 r4, .int .i64 r5, .int .i64 r6, .int .i64 r7] 129)).alloc (.cells #[.int .i64 0, .int .i64 0, .int .i64 0, .int .i64 0, .int .i64 0, .int .i64 0, .int .i64 0, .int .i64 0, .int .i64 0, .slice none 0 0, .slice none 0 0] 133)=V∧Below w.heap.size w V∧Blk V w.heap.size 129 #[.int .i64 r0, .int .i64 r1, .int .i64 r2, .int .i64 r3, .int .i64 r4, .int .i64 r5, .int .i64 r6, .int .i64 r7]∧Blk V (w.heap.size+1) 133 #[.int .i64 0, .int .i64 0, .int .i64 0, .int .i64 0, .int .i64 0, .int .i64 0, .int .i64 0, .int .i64 0, .int .i64 0, .slice none 0 0, .slice none 0 0]:=
 ⟨_,rfl,((Below.refl _ _).alloc (Nat.le_refl _) _).alloc (by simp) _,(Blk.new w _ _).alloc _,Blk.new' (by simp)⟩
theorem Bz4 (w:World):Below w.heap.size w w.drew:=Below.drewN' (Below.refl _ _) 1
def RunOut (w0 W:World) (r:Mc × Nat) (T M:Value):Prop:=W.ownsRow w0.heap.size 3 1 T r.1.told.length (Azx r.1.told)∧W.ownsRow w0.heap.size 3 1 M r.1.mem.length (Azx r.1.mem)
theorem RunOut.below {w0 W W':World} {r:Mc × Nat} {T M:Value} (h:RunOut w0 W r T M) (hb:Below W.heap.size W W'):RunOut w0 W' r T M:=⟨own_below h.1 hb,own_below h.2 hb⟩
theorem RunOut.tch {w0 W W':World} {r:Mc × Nat} {T M:Value} {t:TypeId} (h:RunOut w0 W r T M) (ht:Tch t W W') (hn:3≠t):RunOut w0 W' r T M:=⟨Az4 h.1 ht hn,Az4 h.2 ht hn⟩
def outC (en:Nat) (r:List Nat) (T M:Value):Array Value:= #[natV en,natV (r.getD 0 0),natV (r.getD 1 0),natV (r.getD 2 0),natV (r.getD 3 0),natV (r.getD 4 0),natV (r.getD 5 0),natV (r.getD 6 0),natV (r.getD 7 0),T,M]
theorem Tch.tr {t:TypeId} {a b c:World} (h:Tch t a b) (h':Tch t b c):Tch t a c:=
 ⟨h'.os.trans h.os,h'.tape.trans h.tape,h'.output.trans h.output,Nat.le_trans h.size h'.size,fun q hq hne=>by
   have e:=h.block q hq hne;exact(h'.block q (Nat.lt_of_lt_of_le hq h.size) (by rw[e];exact hne)).trans e⟩
theorem Szm {W:World} {B s:Nat} {c0 c1 c2 c3 c4 c5 c6 c7 c8 c9 c10:Value} (hB:B≤s) (h:Blk W s 133 #[c0,c1,c2,c3,c4,c5,c6,c7,c8,c9,c10]) (v0 v1 v2 v3 v4 v5 v6 v7 v8 v9 v10:Value):
  Blk (((((((((((W.setCell ⟨s,0,none⟩ v0).setCell ⟨s,1,none⟩ v1).setCell ⟨s,2,none⟩ v2).setCell ⟨s,3,none⟩ v3).setCell ⟨s,4,none⟩ v4).setCell ⟨s,5,none⟩ v5).setCell ⟨s,6,none⟩ v6).setCell ⟨s,7,none⟩ v7).setCell ⟨s,8,none⟩ v8).setCell ⟨s,9,none⟩ v9).setCell ⟨s,10,none⟩ v10) s 133 #[v0,v1,v2,v3,v4,v5,v6,v7,v8,v9,v10]∧Tch 133 W (((((((((((W.setCell ⟨s,0,none⟩ v0).setCell ⟨s,1,none⟩ v1).setCell ⟨s,2,none⟩ v2).setCell ⟨s,3,none⟩ v3).setCell ⟨s,4,none⟩ v4).setCell ⟨s,5,none⟩ v5).setCell ⟨s,6,none⟩ v6).setCell ⟨s,7,none⟩ v7).setCell ⟨s,8,none⟩ v8).setCell ⟨s,9,none⟩ v9).setCell ⟨s,10,none⟩ v10)∧Below B W (((((((((((W.setCell ⟨s,0,none⟩ v0).setCell ⟨s,1,none⟩ v1).setCell ⟨s,2,none⟩ v2).setCell ⟨s,3,none⟩ v3).setCell ⟨s,4,none⟩ v4).setCell ⟨s,5,none⟩ v5).setCell ⟨s,6,none⟩ v6).setCell ⟨s,7,none⟩ v7).setCell ⟨s,8,none⟩ v8).setCell ⟨s,9,none⟩ v9).setCell ⟨s,10,none⟩ v10):=by
 have h0:Blk (W.setCell ⟨s,0,none⟩ v0) s 133 #[v0,c1,c2,c3,c4,c5,c6,c7,c8,c9,c10]:=(h).set_ 0 v0;have t0:Tch 133 W (W.setCell ⟨s,0,none⟩ v0):=Tch.of_set (p:=⟨s,0,none⟩) h v0;have h1:Blk ((W.setCell ⟨s,0,none⟩ v0).setCell ⟨s,1,none⟩ v1) s 133 #[v0,v1,c2,c3,c4,c5,c6,c7,c8,c9,c10]:=(h0).set_ 1 v1;have t1:Tch 133 (W.setCell ⟨s,0,none⟩ v0) ((W.setCell ⟨s,0,none⟩ v0).setCell ⟨s,1,none⟩ v1):=Tch.of_set (p:=⟨s,1,none⟩) h0 v1;have h2:Blk (((W.setCell ⟨s,0,none⟩ v0).setCell ⟨s,1,none⟩ v1).setCell ⟨s,2,none⟩ v2) s 133 #[v0,v1,v2,c3,c4,c5,c6,c7,c8,c9,c10]:=(h1).set_ 2 v2;have t2:Tch 133 ((W.setCell ⟨s,0,none⟩ v0).setCell ⟨s,1,none⟩ v1) (((W.setCell ⟨s,0,none⟩ v0).setCell ⟨s,1,none⟩ v1).setCell ⟨s,2,none⟩ v2):=Tch.of_set (p:=⟨s,2,none⟩) h1 v2;have h3:Blk ((((W.setCell ⟨s,0,none⟩ v0).setCell ⟨s,1,none⟩ v1).setCell ⟨s,2,none⟩ v2).setCell ⟨s,3,none⟩ v3) s 133 #[v0,v1,v2,v3,c4,c5,c6,c7,c8,c9,c10]:=(h2).set_ 3 v3;have t3:Tch 133 (((W.setCell ⟨s,0,none⟩ v0).setCell ⟨s,1,none⟩ v1).setCell ⟨s,2,none⟩ v2) ((((W.setCell ⟨s,0,none⟩ v0).setCell ⟨s,1,none⟩ v1).setCell ⟨s,2,none⟩ v2).setCell ⟨s,3,none⟩ v3):=Tch.of_set (p:=⟨s,3,none⟩) h2 v3;have h4:Blk (((((W.setCell ⟨s,0,none⟩ v0).setCell ⟨s,1,none⟩ v1).setCell ⟨s,2,none⟩ v2).setCell ⟨s,3,none⟩ v3).setCell ⟨s,4,none⟩ v4) s 133 #[v0,v1,v2,v3,v4,c5,c6,c7,c8,c9,c10]:=(h3).set_ 4 v4;have t4:Tch 133 ((((W.setCell ⟨s,0,none⟩ v0).setCell ⟨s,1,none⟩ v1).setCell ⟨s,2,none⟩ v2).setCell ⟨s,3,none⟩ v3) (((((W.setCell ⟨s,0,none⟩ v0).setCell ⟨s,1,none⟩ v1).setCell ⟨s,2,none⟩ v2).setCell ⟨s,3,none⟩ v3).setCell ⟨s,4,none⟩ v4):=Tch.of_set (p:=⟨s,4,none⟩) h3 v4;have h5:Blk ((((((W.setCell ⟨s,0,none⟩ v0).setCell ⟨s,1,none⟩ v1).setCell ⟨s,2,none⟩ v2).setCell ⟨s,3,none⟩ v3).setCell ⟨s,4,none⟩ v4).setCell ⟨s,5,none⟩ v5) s 133 #[v0,v1,v2,v3,v4,v5,c6,c7,c8,c9,c10]:=(h4).set_ 5 v5;have t5:Tch 133 (((((W.setCell ⟨s,0,none⟩ v0).setCell ⟨s,1,none⟩ v1).setCell ⟨s,2,none⟩ v2).setCell ⟨s,3,none⟩ v3).setCell ⟨s,4,none⟩ v4) ((((((W.setCell ⟨s,0,none⟩ v0).setCell ⟨s,1,none⟩ v1).setCell ⟨s,2,none⟩ v2).setCell ⟨s,3,none⟩ v3).setCell ⟨s,4,none⟩ v4).setCell ⟨s,5,none⟩ v5):=Tch.of_set (p:=⟨s,5,none⟩) h4 v5;have h6:Blk (((((((W.setCell ⟨s,0,none⟩ v0).setCell ⟨s,1,none⟩ v1).setCell ⟨s,2,none⟩ v2).setCell ⟨s,3,none⟩ v3).setCell ⟨s,4,none⟩ v4).setCell ⟨s,5,none⟩ v5).setCell ⟨s,6,none⟩ v6) s 133 #[v0,v1,v2,v3,v4,v5,v6,c7,c8,c9,c10]:=(h5).set_ 6 v6;have t6:Tch 133 ((((((W.setCell ⟨s,0,none⟩ v0).setCell ⟨s,1,none⟩ v1).setCell ⟨s,2,none⟩ v2).setCell ⟨s,3,none⟩ v3).setCell ⟨s,4,none⟩ v4).setCell ⟨s,5,none⟩ v5) (((((((W.setCell ⟨s,0,none⟩ v0).setCell ⟨s,1,none⟩ v1).setCell ⟨s,2,none⟩ v2).setCell ⟨s,3,none⟩ v3).setCell ⟨s,4,none⟩ v4).setCell ⟨s,5,none⟩ v5).setCell ⟨s,6,none⟩ v6):=Tch.of_set (p:=⟨s,6,none⟩) h5 v6;have h7:Blk ((((((((W.setCell ⟨s,0,none⟩ v0).setCell ⟨s,1,none⟩ v1).setCell ⟨s,2,none⟩ v2).setCell ⟨s,3,none⟩ v3).setCell ⟨s,4,none⟩ v4).setCell ⟨s,5,none⟩ v5).setCell ⟨s,6,none⟩ v6).setCell ⟨s,7,none⟩ v7) s 133 #[v0,v1,v2,v3,v4,v5,v6,v7,c8,c9,c10]:=(h6).set_ 7 v7;have t7:Tch 133 (((((((W.setCell ⟨s,0,none⟩ v0).setCell ⟨s,1,none⟩ v1).setCell ⟨s,2,none⟩ v2).setCell ⟨s,3,none⟩ v3).setCell ⟨s,4,none⟩ v4).setCell ⟨s,5,none⟩ v5).setCell ⟨s,6,none⟩ v6) ((((((((W.setCell ⟨s,0,none⟩ v0).setCell ⟨s,1,none⟩ v1).setCell ⟨s,2,none⟩ v2).setCell ⟨s,3,none⟩ v3).setCell ⟨s,4,none⟩ v4).setCell ⟨s,5,none⟩ v5).setCell ⟨s,6,none⟩ v6).setCell ⟨s,7,none⟩ v7):=Tch.of_set (p:=⟨s,7,none⟩) h6 v7;have h8:Blk (((((((((W.setCell ⟨s,0,none⟩ v0).setCell ⟨s,1,none⟩ v1).setCell ⟨s,2,none⟩ v2).setCell ⟨s,3,none⟩ v3).setCell ⟨s,4,none⟩ v4).setCell ⟨s,5,none⟩ v5).setCell ⟨s,6,none⟩ v6).setCell ⟨s,7,none⟩ v7).setCell ⟨s,8,none⟩ v8) s 133 #[v0,v1,v2,v3,v4,v5,v6,v7,v8,c9,c10]:=(h7).set_ 8 v8
 have t8:Tch 133 ((((((((W.setCell ⟨s,0,none⟩ v0).setCell ⟨s,1,none⟩ v1).setCell ⟨s,2,none⟩ v2).setCell ⟨s,3,none⟩ v3).setCell ⟨s,4,none⟩ v4).setCell ⟨s,5,none⟩ v5).setCell ⟨s,6,none⟩ v6).setCell ⟨s,7,none⟩ v7) (((((((((W.setCell ⟨s,0,none⟩ v0).setCell ⟨s,1,none⟩ v1).setCell ⟨s,2,none⟩ v2).setCell ⟨s,3,none⟩ v3).setCell ⟨s,4,none⟩ v4).setCell ⟨s,5,none⟩ v5).setCell ⟨s,6,none⟩ v6).setCell ⟨s,7,none⟩ v7).setCell ⟨s,8,none⟩ v8):=Tch.of_set (p:=⟨s,8,none⟩) h7 v8;have h9:Blk ((((((((((W.setCell ⟨s,0,none⟩ v0).setCell ⟨s,1,none⟩ v1).setCell ⟨s,2,none⟩ v2).setCell ⟨s,3,none⟩ v3).setCell ⟨s,4,none⟩ v4).setCell ⟨s,5,none⟩ v5).setCell ⟨s,6,none⟩ v6).setCell ⟨s,7,none⟩ v7).setCell ⟨s,8,none⟩ v8).setCell ⟨s,9,none⟩ v9) s 133 #[v0,v1,v2,v3,v4,v5,v6,v7,v8,v9,c10]:=(h8).set_ 9 v9;have t9:Tch 133 (((((((((W.setCell ⟨s,0,none⟩ v0).setCell ⟨s,1,none⟩ v1).setCell ⟨s,2,none⟩ v2).setCell ⟨s,3,none⟩ v3).setCell ⟨s,4,none⟩ v4).setCell ⟨s,5,none⟩ v5).setCell ⟨s,6,none⟩ v6).setCell ⟨s,7,none⟩ v7).setCell ⟨s,8,none⟩ v8) ((((((((((W.setCell ⟨s,0,none⟩ v0).setCell ⟨s,1,none⟩ v1).setCell ⟨s,2,none⟩ v2).setCell ⟨s,3,none⟩ v3).setCell ⟨s,4,none⟩ v4).setCell ⟨s,5,none⟩ v5).setCell ⟨s,6,none⟩ v6).setCell ⟨s,7,none⟩ v7).setCell ⟨s,8,none⟩ v8).setCell ⟨s,9,none⟩ v9):=Tch.of_set (p:=⟨s,9,none⟩) h8 v9;have h10:Blk (((((((((((W.setCell ⟨s,0,none⟩ v0).setCell ⟨s,1,none⟩ v1).setCell ⟨s,2,none⟩ v2).setCell ⟨s,3,none⟩ v3).setCell ⟨s,4,none⟩ v4).setCell ⟨s,5,none⟩ v5).setCell ⟨s,6,none⟩ v6).setCell ⟨s,7,none⟩ v7).setCell ⟨s,8,none⟩ v8).setCell ⟨s,9,none⟩ v9).setCell ⟨s,10,none⟩ v10) s 133 #[v0,v1,v2,v3,v4,v5,v6,v7,v8,v9,v10]:=(h9).set_ 10 v10;have t10:Tch 133 ((((((((((W.setCell ⟨s,0,none⟩ v0).setCell ⟨s,1,none⟩ v1).setCell ⟨s,2,none⟩ v2).setCell ⟨s,3,none⟩ v3).setCell ⟨s,4,none⟩ v4).setCell ⟨s,5,none⟩ v5).setCell ⟨s,6,none⟩ v6).setCell ⟨s,7,none⟩ v7).setCell ⟨s,8,none⟩ v8).setCell ⟨s,9,none⟩ v9) (((((((((((W.setCell ⟨s,0,none⟩ v0).setCell ⟨s,1,none⟩ v1).setCell ⟨s,2,none⟩ v2).setCell ⟨s,3,none⟩ v3).setCell ⟨s,4,none⟩ v4).setCell ⟨s,5,none⟩ v5).setCell ⟨s,6,none⟩ v6).setCell ⟨s,7,none⟩ v7).setCell ⟨s,8,none⟩ v8).setCell ⟨s,9,none⟩ v9).setCell ⟨s,10,none⟩ v10):=Tch.of_set (p:=⟨s,10,none⟩) h9 v10;refine⟨h10,t0.tr (t1.tr (t2.tr (t3.tr (t4.tr (t5.tr (t6.tr (t7.tr (t8.tr (t9.tr t10))))))))),?_⟩;have b:=(Below.refl B W).setCell (p:=⟨s,0,none⟩) hB v0;have b:=b.setCell (p:=⟨s,1,none⟩) hB v1;have b:=b.setCell (p:=⟨s,2,none⟩) hB v2;have b:=b.setCell (p:=⟨s,3,none⟩) hB v3;have b:=b.setCell (p:=⟨s,4,none⟩) hB v4;have b:=b.setCell (p:=⟨s,5,none⟩) hB v5;have b:=b.setCell (p:=⟨s,6,none⟩) hB v6;have b:=b.setCell (p:=⟨s,7,none⟩) hB v7;have b:=b.setCell (p:=⟨s,8,none⟩) hB v8;have b:=b.setCell (p:=⟨s,9,none⟩) hB v9;have b:=b.setCell (p:=⟨s,10,none⟩) hB v10;exact b
attribute [local go_sem] After.cell
section
variable {B g b4 p:Nat} {a:KA} {k:Krn} {ms:List (Value × Value)} {es:List Value}
theorem Qzt (nm dt:ByteArray) (a1 a2 a3:Int) (w:World) (h:KS B w g a k ms es) (hk:KOk k) (hp:p<4) (ha4:a.a4=some ⟨b4,0,none⟩):
  Calls Tryz.prog 19 #[.agg #[.pointer (some ⟨g,0,none⟩)], .pointer (some ⟨b4,p*2,none⟩), .agg #[.int .i64 10, .int .i64 a1, .int .i64 a2, .int .i64 a3, .string nm, .string dt]] w (Cz1 B w g ms (Izm k p)):=by
 obtain⟨hpl,be,c,hp',hel,HUN,HKO,HES,HPL,HPLC,HLT,HA4⟩:=Dzk w h hk hp ha4;have S0:=ByAt.start h #[.int .i64 10, .int .i64 a1, .int .i64 a2, .int .i64 a3, .string nm, .string dt];clear h hk ha4;have HIDX:Hid (∀ W:World,KS B W g a k ms es→Calls Tryz.prog 53 #[.slice (some ⟨b4,0,none⟩) 4 a.c4, .func (.func 54) #[] #[]] W fun e w'=>e= .returned (.int .i64 (Dz5 k))∧Below W.heap.size W w'):=fun W hW=>by
  have:=Ez9 54 #[] (fun x:Prc=> !x.live) a.a4 a.c4 k.procs W hW.krn.procs (by rw[HKO.out.l4];unfold maxLen;omega) Mzz (fun y _ w2 A1 c1 _ _=>Qzl y A1 c1 w2);rw[HKO.out.l4,HA4.out] at this;exact this
 have HV:Hid (Izm k p=if Dz5 k<0 then (k,ansE 8) else ({ k with procs:=k.procs.set (Dz5 k).toNat ⟨true,k.procs[p].ends⟩ },ansN (Dz5 k).toNat)):=by
  show _=_;unfold Izm;rw[HUN.out]
 have HCL:Hid (∀ W:World,KS B W g a k ms es→∀ W':World,Below W.heap.size W W'→Calls Tryz.prog 46 #[.slice (some ⟨be,0,none⟩) 6 c] W' fun e w'=>∃ V,e= .returned V∧w'.ownsRow W'.heap.size 54 3 V 6 (Azg k.procs[p].ends)∧Below W'.heap.size W' w'):=fun W hW W' hb=>by
  have hr:=(KS.rdE (i:=0) (hW.below hb) hpl hp' HES.out).rd;rw[hel] at hr;refine(Iz9 (some ⟨be,0,none⟩) 6 c (Azg k.procs[p].ends) W' hr (fun e=>by cases e) (Hzm _) (by omega)).mono ?_;rintro e w' ⟨A',c',rfl,h1,h2⟩;exact⟨_,rfl,h1,h2⟩
 go_enter Tryz.func19,Tryz.ntmps19;go_upto_region 2 with fail
 refine(show ∀ W:World,ByAt B w W g a k ms es #[.int .i64 10, .int .i64 a1, .int .i64 a2, .int .i64 a3, .string nm, .string dt]→Code.wp _ _ _ _ W from ?_) _ S0;clear S0;intro W0 hS;have HS:=Lib.hid hS;clear hS;obtain⟨x0, -, -, -,xl⟩:=HS.out.wk.a2;obtain⟨c0, -, -, -,cl⟩:=HS.out.ac.a2;simp at x0 c0;obtain⟨d0,d1,d2,d3,d4⟩:=HS.out.ks.c5;have gl:=HS.out.ks.blk.lt;rw[HKO.out.l3] at d3;rw[HKO.out.l4,HA4.out] at d4;rw[HKO.out.l2] at d2;go_wp2_with fail;refine(HIDX.out W0 HS.out.ks).mono ?_;rintro e w1 ⟨rfl,hb⟩;have HS1:=Lib.hid (HS.out.below hb);clear hb HS;clear x0 xl c0 cl d0 d1 d2 d3 d4 gl HIDX;obtain⟨fp,hfp⟩:∃ fp,fp=Dz5 k:=⟨_,rfl⟩;have HFP:=Lib.hid hfp;rw[←hfp] at HV;rw[←hfp];clear hfp;by_cases h8:fp<0
 ·rw[if_pos h8] at HV
  obtain⟨o0,o1,of0,of1,ol⟩:=HS1.out.ot.a2;simp at o0 o1;go_upto_region 39 with fail
  refine(show ∀ W7:World,ByEnd B w W7 g a k ms es 8 0 noS→Code.wp _ _ _ _ W7 from ?_) _ (HS1.out.code 8);intro W7 h7;obtain⟨o0,o1,o2, -⟩:=h7.ot.a3;obtain⟨r0,r1,r2,f0,f1,f2, -⟩:=h7.rs.a3;have ol:=h7.ot.lt;have rl:=h7.rs.lt;simp at o0 o1 o2 r0 r1 r2;have H7:=Lib.hid h7;clear h7;go_wp2;refine bodyPost_ret (v:= .agg #[.int .i64 8, .int .i64 0, .string noS]) (by simp[results,Tryz.results19,go_sem,r0,r1,r2]) rfl ?_;exact H7.out.fin _ HV.out
 ·rw[if_neg h8] at HV
  obtain⟨q,hq,he,hq0⟩:=Dz0 (p:=fun x:Prc=> !x.live) (l:=k.procs) (k:=0) (by have:=HFP.out;unfold Dz5 at this;omega);rw[Nat.zero_add] at he;have e1:fp=(q:Int):=HFP.out.trans he;subst e1;rw[Int.toNat_natCast] at HV;have hq4:q<4:=by have:=HKO.out.l4;omega
  have HQ:=Lib.hid hq;clear h8 he hq0 hq;go_upto_region 40 with fail
  obtain⟨x0, -, -, -,xl⟩:=HS1.out.wk.a2;simp at x0;obtain⟨d0,d1,d2,d3,d4⟩:=HS1.out.ks.c5;have gl:=HS1.out.ks.blk.lt;rw[HKO.out.l3] at d3;rw[HKO.out.l4,HA4.out] at d4;rw[HKO.out.l2] at d2;obtain⟨bl,z1,_⟩:=HS1.out.ks.place_ hpl hp' HA4.out HES.out hel;have hcell:∃ u0 u1,w1.cell? ⟨b4,q*2,none⟩=some u0∧w1.cell? ⟨b4,q*2+1,none⟩=some u1:=by
   have hn:=HS1.out.ks.cp.procs;rw[HA4.out] at hn;have hr:=Rd.of_own hn;obtain⟨b',o',e1,_,hc⟩:=hr.2 (by have:=HKO.out.l4;omega);obtain⟨rfl,rfl⟩:b4=b'∧0=o':=by injection e1 with e1;injection e1 with e1 e2;exact⟨e1,e2⟩
   obtain⟨g1,g2⟩:=Czp k.procs es HS1.out.ks.cp.ends.len q HQ.out (by have:=HS1.out.ks.cp.ends.len;have:=HQ.out;omega);have g1:=hc _ _ g1;have g2:=hc _ _ g2;rw[Nat.zero_add] at g1 g2;exact⟨_,_,g1,g2⟩
  obtain⟨u0,u1,g0,g1⟩:=hcell;have f0:w1.frozen? ⟨b4,q*2,none⟩=false:=by
   have hn:=HS1.out.ks.cp.procs;rw[HA4.out] at hn;exact hn.frozenAt _
  have f1:w1.frozen? ⟨b4,q*2+1,none⟩=false:=by
   have hn:=HS1.out.ks.cp.procs;rw[HA4.out] at hn;exact hn.frozenAt _
  have HL:=Lib.hid (show xl=xl∧True from ⟨rfl,trivial⟩);refine Szg w1 w.heap.size g b4 a.c4 be c p q (Azg k.procs[p].ends) u0 u1 w1 _ (Bz4 _) xl x0 gl d4 bl z1 g0 g1 f0 f1 hq4 (HCL.out w1 HS1.out.ks) ?_;clear x0 xl d0 d1 d2 d3 d4 gl bl z1 g0 g1 f0 f1 HL HCL;intro listed W y139 y140 y141 y142 y143 y144 y145 y146 y147 y148 y149 y150 y151 hall hJ;obtain⟨V,W1,hb1,hV,rfl⟩:=hJ.f13 (hall 13 (by decide));clear hJ;have hfin:=HS1.out.ks.prc (x:=⟨true,k.procs[p].ends⟩) hb1 HA4.out HQ.out (by rw[hel];exact hV) (by rw[hel];omega);have HS2:=Lib.hid (HS1.out.next hfin.1 ((Fr.low hb1 (Nat.le_of_lt HS1.out.ks.lt)).trans hfin.2));clear hfin hb1 hV;go_upto_region 41 with fail
  refine(show ∀ W4:World,ByAt B w W4 g a { k with procs:=k.procs.set q ⟨true,k.procs[p].ends⟩ } ms (es.set q V) _→Code.wp _ _ _ _ W4 from ?_) _ HS2.out;clear HS2;intro W4 hS4;have HS4:=Lib.hid hS4;clear hS4;obtain⟨o0,o1,of0,of1,ol⟩:=HS4.out.ot.a2;simp at o0 o1;go_upto_region 42 with fail
  refine(show ∀ W7:World,ByEnd B w W7 g a { k with procs:=k.procs.set q ⟨true,k.procs[p].ends⟩ } ms (es.set q V) 0 q noS→Code.wp _ _ _ _ W7 from ?_) _ (HS4.out.num q);intro W7 h7;obtain⟨o0,o1,o2, -⟩:=h7.ot.a3;obtain⟨r0,r1,r2,f0,f1,f2, -⟩:=h7.rs.a3;have ol:=h7.ot.lt;have rl:=h7.rs.lt;simp at o0 o1 o2 r0 r1 r2;have H7:=Lib.hid h7;clear h7;go_wp2;refine bodyPost_ret (v:= .agg #[.int .i64 0, .int .i64 q, .string noS]) (by simp[results,Tryz.results19,go_sem,r0,r1,r2]) rfl ?_;exact H7.out.fin _ HV.out
theorem Qzs (nm dt:ByteArray) (a1 a2 a3:Int) (w:World) (h:KS B w g a k ms es) (hk:KOk k) (hp:p<4) (ha4:a.a4=some ⟨b4,0,none⟩):
  Calls Tryz.prog 19 #[.agg #[.pointer (some ⟨g,0,none⟩)], .pointer (some ⟨b4,p*2,none⟩), .agg #[.int .i64 11, .int .i64 a1, .int .i64 a2, .int .i64 a3, .string nm, .string dt]] w (Cz1 B w g ms (Pz0 k p)):=by
 obtain⟨hpl,be,c,hp',hel,HUN,HKO,HES,HPL,HPLC,HLT,HA4⟩:=Dzk w h hk hp ha4;have S0:=ByAt.start h #[.int .i64 11, .int .i64 a1, .int .i64 a2, .int .i64 a3, .string nm, .string dt];clear h hk ha4;have hmk:=Nzh;have HV:Hid (Pz0 k p=(Czx { k with procs:=k.procs.set p ⟨false,List.replicate 6 default⟩ },ansN 0)):=rfl;go_enter Tryz.func19,Tryz.ntmps19;go_upto_region 2 with fail
 refine(show ∀ W:World,ByAt B w W g a k ms es #[.int .i64 11, .int .i64 a1, .int .i64 a2, .int .i64 a3, .string nm, .string dt]→Code.wp _ _ _ _ W from ?_) _ S0;clear S0;intro W0 hS;have HS:=Lib.hid hS;clear hS;obtain⟨c0, -, -, -,cl⟩:=HS.out.ac.a2;simp at c0;obtain⟨b5,be',c',_,e5,_,bl,_,_,_,_,z0,z1⟩:=HS.out.ks.prcAt hpl (by omega);obtain rfl:b4=b5:=by rw[HA4.out] at e5;injection e5 with e5;injection e5
 have f0:W0.frozen? ⟨b4,p*2,none⟩=false:=by
  have hn:=HS.out.ks.cp.procs;rw[HA4.out] at hn;exact hn.frozenAt _
 have f1:W0.frozen? ⟨b4,p*2+1,none⟩=false:=by
  have hn:=HS.out.ks.cp.procs;rw[HA4.out] at hn;exact hn.frozenAt _
 have hb1:=(Below.refl W0.heap.size W0).alloc (Nat.le_refl _) (.cells Qz3 54);have hnn:=HS.out.ks.prc (x:=⟨false,List.replicate 6 default⟩) hb1 HA4.out hpl (Lz8 W0) (by simp);rw[World.setCell_alloc_past _ _ _ _ bl,World.setCell_alloc_past _ _ _ _ (by simpa using bl)] at hnn;have HN:=Lib.hid hnn;clear hnn;have HN2:Hid (Fr B W0 (W0.alloc (.cells Qz3 54))):=Fr.low hb1 (Nat.le_of_lt HS.out.ks.lt);clear hb1 e5;go_upto_region 45 with fail
 refine(show ∀ W1:World,ByAt B w W1 g a { k with procs:=k.procs.set p ⟨false,List.replicate 6 default⟩ } ms (es.set p (.slice (some ⟨W0.heap.size,0,none⟩) 6 6)) _→Code.wp _ _ _ _ W1 from ?_) _ (HS.out.next HN.out.1 (HN2.out.trans HN.out.2));clear HN HN2 HS bl z0 z1 f0 f1 c0 cl hmk;intro W1 hHS1;have HS1:=Lib.hid hHS1;clear hHS1;obtain⟨x0, -, -, -,xl⟩:=HS1.out.wk.a2;simp at x0;have HT:=Lib.hid (Iz5 W1 HS1.out.ks HKO.out.l2 HKO.out.l3 (by simp only[List.length_set];exact HKO.out.l4));go_wp2_with fail;refine HT.out.mono ?_;rintro e w2 ⟨rfl,hK2,hF2⟩;have HS2:=Lib.hid (HS1.out.next hK2 hF2);clear HT hK2 hF2 x0 xl HS1;obtain⟨o0,o1,of0,of1,ol⟩:=HS2.out.ot.a2;simp at o0 o1;go_upto_region 46 with fail
 refine(show ∀ W7:World,ByEnd B w W7 g a (Czx { k with procs:=k.procs.set p ⟨false,List.replicate 6 default⟩ }) ms (es.set p (.slice (some ⟨W0.heap.size,0,none⟩) 6 6)) 0 0 noS→Code.wp _ _ _ _ W7 from ?_) _ (HS2.out.nothing);intro W7 h7;obtain⟨o0,o1,o2, -⟩:=h7.ot.a3;obtain⟨r0,r1,r2,f0,f1,f2, -⟩:=h7.rs.a3;have ol:=h7.ot.lt;have rl:=h7.rs.lt;simp at o0 o1 o2 r0 r1 r2;have H7:=Lib.hid h7;clear h7;go_wp2;refine bodyPost_ret (v:= .agg #[.int .i64 0, .int .i64 0, .string noS]) (by simp[results,Tryz.results19,go_sem,r0,r1,r2]) rfl ?_;exact H7.out.fin _ HV.out
end
end Go.Proofs.YtdjamdbamkhblacGreatDoor
