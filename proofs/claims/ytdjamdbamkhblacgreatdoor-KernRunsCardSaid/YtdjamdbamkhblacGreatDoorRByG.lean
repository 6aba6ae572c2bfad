/- The drawn regions of the reference's byProcess that write. No condition. By an AI agent (xrbyg.py). -/
import Derived.Test.YtdjamdbamkhblacGreatDoorG22
import Derived.Test.YtdjamdbamkhblacGreatDoorRCopyG
set_option maxHeartbeats 8000000
set_option maxRecDepth 1000000
namespace Go.Proofs.YtdjamdbamkhblacGreatDoor
open Go.RowKit
set_option linter.unusedVariables false
set_option linter.unusedSimpArgs false
structure BKR (w0:World) (g b4 c4 be c p q:Nat) (xs:List Value) (u0 u1:Value) (t0t t1t t2t t3t t4t t5t t6t t7t t8t t9t t10t t11t t12t t13t t14t t15t t16t:Bool) (W:World) (y166 y167 y168 y169 y170 y171 y172 y173 y174 y175 y176 y177 y178 y179 y180 y181:Value):Prop where
 f0:t0t=true→y166= .pointer (some ⟨g,0,none⟩)
 f1:t1t=true→y167= .pointer (some ⟨g,0,none⟩)
 f2:t2t=true→y168= .pointer (some ⟨g,4,none⟩)
 f3:t3t=true→y169= .slice (some ⟨b4,0,none⟩) 4 c4
 f4:t4t=true→y170= .int .i64 (q:Int)
 f5:t5t=true→y171= .pointer (some ⟨g,0,none⟩)
 f6:t6t=true→y172= .pointer (some ⟨g,0,none⟩)
 f7:t7t=true→y173= .pointer (some ⟨g,4,none⟩)
 f8:t8t=true→y174= .slice (some ⟨b4,0,none⟩) 4 c4
 f9:t9t=true→y175= .int .i64 (p:Int)
 f10:t10t=true→y176= .pointer (some ⟨b4,p*2,none⟩)
 f11:t11t=true→y177= .pointer (some ⟨b4,p*2+1,none⟩)
 f12:t12t=true→y178= .slice (some ⟨be,0,none⟩) 6 c
 f13:t13t=true→∃ s:Value,y179=s∧(t16t=false→W.ownsRow w0.heap.size 54 3 s 6 xs)
 f14:t14t=true→∃ s:Value,y180= .agg #[.bool true,s]∧(t16t=false→W.ownsRow w0.heap.size 54 3 s 6 xs)
 f15:t15t=true→y181= .pointer (some ⟨b4,q*2,none⟩)
 f16:t16t=true→∃ (V:Value) (W1:World),Below w0.heap.size w0 W1∧W1.ownsRow w0.heap.size 54 3 V 6 xs∧W=(W1.setCell ⟨b4,q*2,none⟩ (.bool true)).setCell ⟨b4,q*2+1,none⟩ V
 q16_3:t16t=true→t3t=true
 q16_8:t16t=true→t8t=true
 q16_12:t16t=true→t12t=true
 q16_13:t16t=true→t13t=true
 q16_14:t16t=true→t14t=true
 w:t16t=false→Below w0.heap.size w0 W
noncomputable def Ozq:Code:=((Tryz.f27.body.bind (Czf 36)).getD .skip)
theorem Qzo (w0:World) (g b4 c4 be c p q:Nat) (xs:List Value) (u0 u1:Value) {v1 v2 v3 v4 v6 v7 v8 v9 v10 v12 v13 v14 v15 v16 v17 v18 v19 v20 v21 v22 v23 v24 v25 v26 v27 v28 v29 v30 v31 v32 v33 v34 v35 v36 v37 v38 v39 v40 v41 v42 v43 v44 v45 v46 v47 v48 v49 v50 v51 v52 v53 v54 v55 v56 v57 v58 v59 v60 v61 v62 v63 v64 v65 v66 v67 v68 v69 v70 v71 v72 v73 v74 v75 v76 v77 v78 v79 v80 v81 v82 v83 v84 v85 v86 v87 v88 v89 v90 v91 v92 v93 v94 v95 v96 v97 v98 v99 v100 v101 v102 v103 v104 v105 v106 v107 v108 v109 v110 v111 v112 v113 v114 v115 v116 v117 v118 v119 v120 v121 v122 v123 v124 v125 v126 v127 v128 v129 v130 v131 v132 v133 v134 v135 v136 v137 v138 v139 v140 v141 v142 v143 v144 v145 v146 v147 v148 v149 v150 v151 v152 v153 v154 v155 v156 v157 v158 v159 v160 v161 v162 v163 v164 v165 v166 v167 v168 v169 v170 v171 v172 v173 v174 v175 v176 v177 v178 v179 v180 v181 v182 v183 v184 v185 v186 v187 v188 v189 v190 v191 v192 v193 v194 v195 v196 v197 v198 v199 v200 v201 v202 v203 v204 v205 v206 v207 v208 v209 v210 v211 v212 v213 v214 v215 v216 v217 v218 v219 v220 v221 v222 v223 v224 v225 v226 v227 v228 v229 v230 v231 v232 v233 v234 v235 v236 v237 v238 v239 v240 v241 v242 v243 v244 v245 v246 v247 v248 v249 v250 v251 v252 v253:Value} (wr:World) (Q:Exit→Act→World→Prop) (hbs:Below w0.heap.size w0 wr.drew) (hlg:g<w0.heap.size) (hg4:w0.cell? ⟨g,4,none⟩=some (.slice (some ⟨b4,0,none⟩) 4 c4)) (hlb:b4<w0.heap.size) (hp0:w0.cell? ⟨b4,p*2,none⟩=some (.bool true)) (hp1:w0.cell? ⟨b4,p*2+1,none⟩=some (.slice (some ⟨be,0,none⟩) 6 c)) (hp:p<4) (hq:q<4) (hc0:w0.cell? ⟨b4,q*2,none⟩=some (u0)) (hc1:w0.cell? ⟨b4,q*2+1,none⟩=some (u1)) (hf0:w0.frozen? ⟨b4,q*2,none⟩=false) (hf1:w0.frozen? ⟨b4,q*2+1,none⟩=false) (hR:Rd w0 w0.heap.size 3 (some ⟨be,0,none⟩) 6 xs) (hone:∀ u∈xs,u.oneCell'=true)
  (hQ:∀ (listed:Array Bool) (W:World) (y166 y167 y168 y169 y170 y171 y172 y173 y174 y175 y176 y177 y178 y179 y180 y181:Value),(∀ i,i<17→listed.getD i true=true)→BKR w0 g b4 c4 be c p q xs u0 u1 (listed.getD 0 true) (listed.getD 1 true) (listed.getD 2 true) (listed.getD 3 true) (listed.getD 4 true) (listed.getD 5 true) (listed.getD 6 true) (listed.getD 7 true) (listed.getD 8 true) (listed.getD 9 true) (listed.getD 10 true) (listed.getD 11 true) (listed.getD 12 true) (listed.getD 13 true) (listed.getD 14 true) (listed.getD 15 true) (listed.getD 16 true) W y166 y167 y168 y169 y170 y171 y172 y173 y174 y175 y176 y177 y178 y179 y180 y181→Q .normal ⟨#[.pointer (some ⟨g,0,none⟩),v1,v2,v3,v4, .int .i64 (p:Int),v6,v7,v8,v9,v10, .int .i64 (q:Int),v12,v13,v14,v15,v16,v17,v18,v19,v20,v21,v22,v23,v24,v25,v26,v27,v28,v29,v30,v31,v32,v33,v34,v35,v36,v37,v38,v39,v40,v41,v42,v43,v44,v45,v46,v47,v48,v49,v50,v51,v52,v53,v54,v55,v56,v57,v58,v59,v60,v61,v62,v63,v64,v65,v66,v67,v68,v69,v70,v71,v72,v73,v74,v75,v76,v77,v78,v79,v80,v81,v82,v83,v84,v85,v86,v87,v88,v89,v90,v91,v92,v93,v94,v95,v96,v97,v98,v99,v100,v101,v102,v103,v104,v105,v106,v107,v108,v109,v110,v111,v112,v113,v114,v115,v116,v117,v118,v119,v120,v121,v122,v123,v124,v125,v126,v127,v128,v129,v130,v131,v132,v133,v134,v135,v136,v137,v138,v139,v140,v141,v142,v143,v144,v145,v146,v147,v148,v149,v150,v151,v152,v153,v154,v155,v156,v157,v158,v159,v160,v161,v162,v163,v164,v165,y166,y167,y168,y169,y170,y171,y172,y173,y174,y175,y176,y177,y178,y179,y180,y181,v182,v183,v184,v185,v186,v187,v188,v189,v190,v191,v192,v193,v194,v195,v196,v197,v198,v199,v200,v201,v202,v203,v204,v205,v206,v207,v208,v209,v210,v211,v212,v213,v214,v215,v216,v217,v218,v219,v220,v221,v222,v223,v224,v225,v226,v227,v228,v229,v230,v231,v232,v233,v234,v235,v236,v237,v238,v239,v240,v241,v242,v243,v244,v245,v246,v247,v248,v249,v250,v251,v252,v253],[]⟩ W):
  Code.wp Tryz.prog Ozq Q ⟨#[.pointer (some ⟨g,0,none⟩),v1,v2,v3,v4, .int .i64 (p:Int),v6,v7,v8,v9,v10, .int .i64 (q:Int),v12,v13,v14,v15,v16,v17,v18,v19,v20,v21,v22,v23,v24,v25,v26,v27,v28,v29,v30,v31,v32,v33,v34,v35,v36,v37,v38,v39,v40,v41,v42,v43,v44,v45,v46,v47,v48,v49,v50,v51,v52,v53,v54,v55,v56,v57,v58,v59,v60,v61,v62,v63,v64,v65,v66,v67,v68,v69,v70,v71,v72,v73,v74,v75,v76,v77,v78,v79,v80,v81,v82,v83,v84,v85,v86,v87,v88,v89,v90,v91,v92,v93,v94,v95,v96,v97,v98,v99,v100,v101,v102,v103,v104,v105,v106,v107,v108,v109,v110,v111,v112,v113,v114,v115,v116,v117,v118,v119,v120,v121,v122,v123,v124,v125,v126,v127,v128,v129,v130,v131,v132,v133,v134,v135,v136,v137,v138,v139,v140,v141,v142,v143,v144,v145,v146,v147,v148,v149,v150,v151,v152,v153,v154,v155,v156,v157,v158,v159,v160,v161,v162,v163,v164,v165,v166,v167,v168,v169,v170,v171,v172,v173,v174,v175,v176,v177,v178,v179,v180,v181,v182,v183,v184,v185,v186,v187,v188,v189,v190,v191,v192,v193,v194,v195,v196,v197,v198,v199,v200,v201,v202,v203,v204,v205,v206,v207,v208,v209,v210,v211,v212,v213,v214,v215,v216,v217,v218,v219,v220,v221,v222,v223,v224,v225,v226,v227,v228,v229,v230,v231,v232,v233,v234,v235,v236,v237,v238,v239,v240,v241,v242,v243,v244,v245,v246,v247,v248,v249,v250,v251,v252,v253],[]⟩ wr:=by
 have HQ:=Lib.hid hQ;clear hQ;conv=>arg 2;whnf
 refine Azj (fun listed a W=>∃ y166 y167 y168 y169 y170 y171 y172 y173 y174 y175 y176 y177 y178 y179 y180 y181,BKR w0 g b4 c4 be c p q xs u0 u1 (listed.getD 0 true) (listed.getD 1 true) (listed.getD 2 true) (listed.getD 3 true) (listed.getD 4 true) (listed.getD 5 true) (listed.getD 6 true) (listed.getD 7 true) (listed.getD 8 true) (listed.getD 9 true) (listed.getD 10 true) (listed.getD 11 true) (listed.getD 12 true) (listed.getD 13 true) (listed.getD 14 true) (listed.getD 15 true) (listed.getD 16 true) W y166 y167 y168 y169 y170 y171 y172 y173 y174 y175 y176 y177 y178 y179 y180 y181∧a=⟨#[.pointer (some ⟨g,0,none⟩),v1,v2,v3,v4, .int .i64 (p:Int),v6,v7,v8,v9,v10, .int .i64 (q:Int),v12,v13,v14,v15,v16,v17,v18,v19,v20,v21,v22,v23,v24,v25,v26,v27,v28,v29,v30,v31,v32,v33,v34,v35,v36,v37,v38,v39,v40,v41,v42,v43,v44,v45,v46,v47,v48,v49,v50,v51,v52,v53,v54,v55,v56,v57,v58,v59,v60,v61,v62,v63,v64,v65,v66,v67,v68,v69,v70,v71,v72,v73,v74,v75,v76,v77,v78,v79,v80,v81,v82,v83,v84,v85,v86,v87,v88,v89,v90,v91,v92,v93,v94,v95,v96,v97,v98,v99,v100,v101,v102,v103,v104,v105,v106,v107,v108,v109,v110,v111,v112,v113,v114,v115,v116,v117,v118,v119,v120,v121,v122,v123,v124,v125,v126,v127,v128,v129,v130,v131,v132,v133,v134,v135,v136,v137,v138,v139,v140,v141,v142,v143,v144,v145,v146,v147,v148,v149,v150,v151,v152,v153,v154,v155,v156,v157,v158,v159,v160,v161,v162,v163,v164,v165,y166,y167,y168,y169,y170,y171,y172,y173,y174,y175,y176,y177,y178,y179,y180,y181,v182,v183,v184,v185,v186,v187,v188,v189,v190,v191,v192,v193,v194,v195,v196,v197,v198,v199,v200,v201,v202,v203,v204,v205,v206,v207,v208,v209,v210,v211,v212,v213,v214,v215,v216,v217,v218,v219,v220,v221,v222,v223,v224,v225,v226,v227,v228,v229,v230,v231,v232,v233,v234,v235,v236,v237,v238,v239,v240,v241,v242,v243,v244,v245,v246,v247,v248,v249,v250,v251,v252,v253],[]⟩) (by kernel_rfl) (Czi (by kernel_rfl)) ?start ?step ?fin
 case start=>
  refine⟨_,_,_,_,_,_,_,_,_,_,_,_,_,_,_,_,?_,rfl⟩;constructor
  all_goals first|exact fun _=>hbs|exact fun _=>rfl|exact fun h=>absurd h (by decide)
 case step=>
  intro i o ho listed a W hl haf hI K hK;obtain⟨y166,y167,y168,y169,y170,y171,y172,y173,y174,y175,y176,y177,y178,y179,y180,y181,hJ,rfl⟩:=hI;have hK:=fun (W':World) z166 z167 z168 z169 z170 z171 z172 z173 z174 z175 z176 z177 z178 z179 z180 z181 h=>hK _ W' ⟨z166,z167,z168,z169,z170,z171,z172,z173,z174,z175,z176,z177,z178,z179,z180,z181,h,rfl⟩
  simp only[Az2] at hK;have hi:i<17:=(Array.getElem?_eq_some_iff.1 ho).1;have h16:i=0∨i=1∨i=2∨i=3∨i=4∨i=5∨i=6∨i=7∨i=8∨i=9∨i=10∨i=11∨i=12∨i=13∨i=14∨i=15∨i=16:=by omega
  rcases h16 with rfl|rfl|rfl|rfl|rfl|rfl|rfl|rfl|rfl|rfl|rfl|rfl|rfl|rfl|rfl|rfl|rfl
  all_goals
   have ho:=Option.some.inj ho;subst ho
   try simp[Region.binds] at haf
  ·
    go_simp;apply hK;exact { hJ with f0:=fun _=>rfl }
  ·
    obtain rfl:=hJ.f0 (Az0 (by simp[haf]));go_simp;apply hK;exact { hJ with f1:=fun _=>rfl }
  ·
    obtain rfl:=hJ.f1 (Az0 (by simp[haf]));go_simp;apply hK;exact { hJ with f2:=fun _=>rfl }
  ·
    obtain rfl:=hJ.f2 (Az0 (by simp[haf]));have h16:=nlR hJ.q16_3 hl;have hw:=hJ.w h16;have e1:=(hw.cell (p:=⟨g,4,none⟩) hlg).trans hg4;go_simp;apply hK;exact { hJ with f3:=fun _=>rfl,q16_3:=fun _=>rfl }
  ·
    go_simp;apply hK;exact { hJ with f4:=fun _=>rfl }
  ·
    go_simp;apply hK;exact { hJ with f5:=fun _=>rfl }
  ·
    obtain rfl:=hJ.f5 (Az0 (by simp[haf]));go_simp;apply hK;exact { hJ with f6:=fun _=>rfl }
  ·
    obtain rfl:=hJ.f6 (Az0 (by simp[haf]));go_simp;apply hK;exact { hJ with f7:=fun _=>rfl }
  ·
    obtain rfl:=hJ.f7 (Az0 (by simp[haf]));have h16:=nlR hJ.q16_8 hl;have hw:=hJ.w h16;have e1:=(hw.cell (p:=⟨g,4,none⟩) hlg).trans hg4;go_simp;apply hK;exact { hJ with f8:=fun _=>rfl,q16_8:=fun _=>rfl }
  ·
    go_simp;apply hK;exact { hJ with f9:=fun _=>rfl }
  ·
    obtain rfl:=hJ.f8 (Az0 (by simp[haf]));obtain rfl:=hJ.f9 (Az0 (by simp[haf]));have hp4:(p:Int)<4:=by omega
    go_simp;apply hK;exact { hJ with f10:=fun _=>rfl }
  ·
    obtain rfl:=hJ.f10 (Az0 (by simp[haf]));go_simp;apply hK;exact { hJ with f11:=fun _=>rfl }
  ·
    obtain rfl:=hJ.f11 (Az0 (by simp[haf]));have h16:=nlR hJ.q16_12 hl;have hw:=hJ.w h16;have e1:=(hw.cell (p:=⟨b4,p*2+1,none⟩) hlb).trans hp1;go_simp;apply hK;exact { hJ with f12:=fun _=>rfl,q16_12:=fun _=>rfl }
  ·
    obtain rfl:=hJ.f12 (Az0 (by simp[haf]));have h16:=nlR hJ.q16_13 hl;have hw:=hJ.w h16;obtain⟨im,him,hz0,hz1,hz2⟩:=info_parts Ezf;have hU:=Tryz.underlying50;refine Bz0 _ rfl _ _ _ rfl w0.heap.size 54 im _ 3 24 hU him hz0 hz1 hz2 rfl (by omega) rfl w0.heap.size (some ⟨be,0,none⟩) 6 c xs rfl (hR.below hw) hone (by unfold maxLen;omega) (by omega) hw.size ?_;intro A5 c5 w5 hown5 hbw5;apply hK;exact { hJ with f13:=fun _=>⟨_,rfl,fun h=>hown5⟩,f14:=fun x=>by obtain⟨s,e1,e2⟩:=hJ.f14 x;exact⟨s,e1,fun h=>own_below (e2 h) hbw5⟩,f16:=fun x=>by have e:=hJ.q16_13 x;rw[hl] at e;exact absurd e (by decide),q16_13:=fun _=>rfl,w:=(fun h=>(hJ.w h).trans (hbw5.mono hw.size)) }
  ·
    obtain⟨s13,rfl,hE13⟩:=hJ.f13 (Az0 (by simp[haf]));have h16:=nlR hJ.q16_14 hl;have hw:=hJ.w h16;obtain⟨AV,cV,rfl⟩:=Az1 (hE13 h16);go_simp;apply hK;exact { hJ with f14:=fun _=>⟨_,rfl,fun h=>hE13 h⟩,q16_14:=fun _=>rfl }
  ·
    obtain rfl:=hJ.f3 (Az0 (by simp[haf]));obtain rfl:=hJ.f4 (Az0 (by simp[haf]));have hq4:(q:Int)<4:=by omega
    go_simp;apply hK;exact { hJ with f15:=fun _=>rfl }
  ·
    have p14:listed.getD 14 true=true:=Az0 (by simp[haf]);have p3:listed.getD 3 true=true:=Az0 (by simp[haf]);have p8:listed.getD 8 true=true:=Az0 (by simp[haf]);have p12:listed.getD 12 true=true:=Az0 (by simp[haf]);have p13:listed.getD 13 true=true:=Az0 (by simp[haf]);obtain rfl:=hJ.f15 (Az0 (by simp[haf]));obtain⟨s14,rfl,hE14⟩:=hJ.f14 p14;obtain⟨s13,rfl,hE13⟩:=hJ.f13 p13;have hw:=hJ.w hl;have hO:=hE14 hl;obtain⟨AV,cV,rfl⟩:=Az1 hO;have hlt:b4<W.heap.size:=Nat.lt_of_lt_of_le hlb hw.size;have e0:=(hw.cell (p:=⟨b4,q*2,none⟩) hlb).trans hc0;have e1:=(hw.cell (p:=⟨b4,q*2+1,none⟩) hlb).trans hc1;have f0:=(hw.frozen (p:=⟨b4,q*2,none⟩) hlb).trans hf0;have f1:=(hw.frozen (p:=⟨b4,q*2+1,none⟩) hlb).trans hf1;go_simp;apply hK;exact { hJ with f13:=fun x=>by obtain⟨s,e1,e2⟩:=hJ.f13 x;exact⟨s,e1,tfR⟩,f14:=fun x=>by obtain⟨s,e1,e2⟩:=hJ.f14 x;exact⟨s,e1,tfR⟩,f16:=fun _=>⟨_,W,hw,hO,rfl⟩,q16_3:=fun _=>p3,q16_8:=fun _=>p8,q16_12:=fun _=>p12,q16_13:=fun _=>p13,q16_14:=fun _=>p14,w:=tfR }
 case fin=>
  intro listed a W hall hI;obtain⟨y166,y167,y168,y169,y170,y171,y172,y173,y174,y175,y176,y177,y178,y179,y180,y181,hJ,rfl⟩:=hI;exact HQ.out listed W _ _ _ _ _ _ _ _ _ _ _ _ _ _ _ _ hall hJ
structure BXR (w0:World) (g b4 c4 be c p:Nat) (t0t t1t t2t t3t t4t t5t t6t t7t t8t:Bool) (W:World) (y187 y188 y189 y190 y191 y192 y193 y194:Value):Prop where
 f0:t0t=true→y187= .pointer (some ⟨g,0,none⟩)
 f1:t1t=true→y188= .pointer (some ⟨g,0,none⟩)
 f2:t2t=true→y189= .pointer (some ⟨g,4,none⟩)
 f3:t3t=true→y190= .slice (some ⟨b4,0,none⟩) 4 c4
 f4:t4t=true→y191= .int .i64 (p:Int)
 f5:t5t=true→∃ s:Nat,y192= .slice (some ⟨s,0,none⟩) 6 6∧(t8t=false→W.ownsRow w0.heap.size 54 3 (.slice (some ⟨s,0,none⟩) 6 6) 6 (Azg (List.replicate 6 default)))
 f6:t6t=true→∃ s:Nat,y193= .agg #[.bool false, .slice (some ⟨s,0,none⟩) 6 6]∧(t8t=false→W.ownsRow w0.heap.size 54 3 (.slice (some ⟨s,0,none⟩) 6 6) 6 (Azg (List.replicate 6 default)))
 f7:t7t=true→y194= .pointer (some ⟨b4,p*2,none⟩)
 f8:t8t=true→∃ (V:Value) (W1:World),Below w0.heap.size w0 W1∧W1.ownsRow w0.heap.size 54 3 V 6 (Azg (List.replicate 6 default))∧W=(W1.setCell ⟨b4,p*2,none⟩ (.bool false)).setCell ⟨b4,p*2+1,none⟩ V
 q8_3:t8t=true→t3t=true
 q8_5:t8t=true→t5t=true
 q8_6:t8t=true→t6t=true
 w:t8t=false→Below w0.heap.size w0 W
noncomputable def Ozp:Code:=((Tryz.f27.body.bind (Czf 40)).getD .skip)
theorem Qzm (w0:World) (g b4 c4 be c p:Nat) {v1 v2 v3 v4 v6 v7 v8 v9 v10 v11 v12 v13 v14 v15 v16 v17 v18 v19 v20 v21 v22 v23 v24 v25 v26 v27 v28 v29 v30 v31 v32 v33 v34 v35 v36 v37 v38 v39 v40 v41 v42 v43 v44 v45 v46 v47 v48 v49 v50 v51 v52 v53 v54 v55 v56 v57 v58 v59 v60 v61 v62 v63 v64 v65 v66 v67 v68 v69 v70 v71 v72 v73 v74 v75 v76 v77 v78 v79 v80 v81 v82 v83 v84 v85 v86 v87 v88 v89 v90 v91 v92 v93 v94 v95 v96 v97 v98 v99 v100 v101 v102 v103 v104 v105 v106 v107 v108 v109 v110 v111 v112 v113 v114 v115 v116 v117 v118 v119 v120 v121 v122 v123 v124 v125 v126 v127 v128 v129 v130 v131 v132 v133 v134 v135 v136 v137 v138 v139 v140 v141 v142 v143 v144 v145 v146 v147 v148 v149 v150 v151 v152 v153 v154 v155 v156 v157 v158 v159 v160 v161 v162 v163 v164 v165 v166 v167 v168 v169 v170 v171 v172 v173 v174 v175 v176 v177 v178 v179 v180 v181 v182 v183 v184 v185 v186 v187 v188 v189 v190 v191 v192 v193 v194 v195 v196 v197 v198 v199 v200 v201 v202 v203 v204 v205 v206 v207 v208 v209 v210 v211 v212 v213 v214 v215 v216 v217 v218 v219 v220 v221 v222 v223 v224 v225 v226 v227 v228 v229 v230 v231 v232 v233 v234 v235 v236 v237 v238 v239 v240 v241 v242 v243 v244 v245 v246 v247 v248 v249 v250 v251 v252 v253:Value} (wr:World) (Q:Exit→Act→World→Prop) (hbs:Below w0.heap.size w0 wr.drew) (hlg:g<w0.heap.size) (hg4:w0.cell? ⟨g,4,none⟩=some (.slice (some ⟨b4,0,none⟩) 4 c4)) (hlb:b4<w0.heap.size) (hp0:w0.cell? ⟨b4,p*2,none⟩=some (.bool true)) (hp1:w0.cell? ⟨b4,p*2+1,none⟩=some (.slice (some ⟨be,0,none⟩) 6 c)) (hp:p<4) (hf0:w0.frozen? ⟨b4,p*2,none⟩=false) (hf1:w0.frozen? ⟨b4,p*2+1,none⟩=false)
  (hQ:∀ (listed:Array Bool) (W:World) (y187 y188 y189 y190 y191 y192 y193 y194:Value),(∀ i,i<9→listed.getD i true=true)→BXR w0 g b4 c4 be c p (listed.getD 0 true) (listed.getD 1 true) (listed.getD 2 true) (listed.getD 3 true) (listed.getD 4 true) (listed.getD 5 true) (listed.getD 6 true) (listed.getD 7 true) (listed.getD 8 true) W y187 y188 y189 y190 y191 y192 y193 y194→Q .normal ⟨#[.pointer (some ⟨g,0,none⟩),v1,v2,v3,v4, .int .i64 (p:Int),v6,v7,v8,v9,v10,v11,v12,v13,v14,v15,v16,v17,v18,v19,v20,v21,v22,v23,v24,v25,v26,v27,v28,v29,v30,v31,v32,v33,v34,v35,v36,v37,v38,v39,v40,v41,v42,v43,v44,v45,v46,v47,v48,v49,v50,v51,v52,v53,v54,v55,v56,v57,v58,v59,v60,v61,v62,v63,v64,v65,v66,v67,v68,v69,v70,v71,v72,v73,v74,v75,v76,v77,v78,v79,v80,v81,v82,v83,v84,v85,v86,v87,v88,v89,v90,v91,v92,v93,v94,v95,v96,v97,v98,v99,v100,v101,v102,v103,v104,v105,v106,v107,v108,v109,v110,v111,v112,v113,v114,v115,v116,v117,v118,v119,v120,v121,v122,v123,v124,v125,v126,v127,v128,v129,v130,v131,v132,v133,v134,v135,v136,v137,v138,v139,v140,v141,v142,v143,v144,v145,v146,v147,v148,v149,v150,v151,v152,v153,v154,v155,v156,v157,v158,v159,v160,v161,v162,v163,v164,v165,v166,v167,v168,v169,v170,v171,v172,v173,v174,v175,v176,v177,v178,v179,v180,v181,v182,v183,v184,v185,v186,y187,y188,y189,y190,y191,y192,y193,y194,v195,v196,v197,v198,v199,v200,v201,v202,v203,v204,v205,v206,v207,v208,v209,v210,v211,v212,v213,v214,v215,v216,v217,v218,v219,v220,v221,v222,v223,v224,v225,v226,v227,v228,v229,v230,v231,v232,v233,v234,v235,v236,v237,v238,v239,v240,v241,v242,v243,v244,v245,v246,v247,v248,v249,v250,v251,v252,v253],[]⟩ W):
  Code.wp Tryz.prog Ozp Q ⟨#[.pointer (some ⟨g,0,none⟩),v1,v2,v3,v4, .int .i64 (p:Int),v6,v7,v8,v9,v10,v11,v12,v13,v14,v15,v16,v17,v18,v19,v20,v21,v22,v23,v24,v25,v26,v27,v28,v29,v30,v31,v32,v33,v34,v35,v36,v37,v38,v39,v40,v41,v42,v43,v44,v45,v46,v47,v48,v49,v50,v51,v52,v53,v54,v55,v56,v57,v58,v59,v60,v61,v62,v63,v64,v65,v66,v67,v68,v69,v70,v71,v72,v73,v74,v75,v76,v77,v78,v79,v80,v81,v82,v83,v84,v85,v86,v87,v88,v89,v90,v91,v92,v93,v94,v95,v96,v97,v98,v99,v100,v101,v102,v103,v104,v105,v106,v107,v108,v109,v110,v111,v112,v113,v114,v115,v116,v117,v118,v119,v120,v121,v122,v123,v124,v125,v126,v127,v128,v129,v130,v131,v132,v133,v134,v135,v136,v137,v138,v139,v140,v141,v142,v143,v144,v145,v146,v147,v148,v149,v150,v151,v152,v153,v154,v155,v156,v157,v158,v159,v160,v161,v162,v163,v164,v165,v166,v167,v168,v169,v170,v171,v172,v173,v174,v175,v176,v177,v178,v179,v180,v181,v182,v183,v184,v185,v186,v187,v188,v189,v190,v191,v192,v193,v194,v195,v196,v197,v198,v199,v200,v201,v202,v203,v204,v205,v206,v207,v208,v209,v210,v211,v212,v213,v214,v215,v216,v217,v218,v219,v220,v221,v222,v223,v224,v225,v226,v227,v228,v229,v230,v231,v232,v233,v234,v235,v236,v237,v238,v239,v240,v241,v242,v243,v244,v245,v246,v247,v248,v249,v250,v251,v252,v253],[]⟩ wr:=by
 have HQ:=Lib.hid hQ;clear hQ;conv=>arg 2;whnf
 refine Azj (fun listed a W=>∃ y187 y188 y189 y190 y191 y192 y193 y194,BXR w0 g b4 c4 be c p (listed.getD 0 true) (listed.getD 1 true) (listed.getD 2 true) (listed.getD 3 true) (listed.getD 4 true) (listed.getD 5 true) (listed.getD 6 true) (listed.getD 7 true) (listed.getD 8 true) W y187 y188 y189 y190 y191 y192 y193 y194∧a=⟨#[.pointer (some ⟨g,0,none⟩),v1,v2,v3,v4, .int .i64 (p:Int),v6,v7,v8,v9,v10,v11,v12,v13,v14,v15,v16,v17,v18,v19,v20,v21,v22,v23,v24,v25,v26,v27,v28,v29,v30,v31,v32,v33,v34,v35,v36,v37,v38,v39,v40,v41,v42,v43,v44,v45,v46,v47,v48,v49,v50,v51,v52,v53,v54,v55,v56,v57,v58,v59,v60,v61,v62,v63,v64,v65,v66,v67,v68,v69,v70,v71,v72,v73,v74,v75,v76,v77,v78,v79,v80,v81,v82,v83,v84,v85,v86,v87,v88,v89,v90,v91,v92,v93,v94,v95,v96,v97,v98,v99,v100,v101,v102,v103,v104,v105,v106,v107,v108,v109,v110,v111,v112,v113,v114,v115,v116,v117,v118,v119,v120,v121,v122,v123,v124,v125,v126,v127,v128,v129,v130,v131,v132,v133,v134,v135,v136,v137,v138,v139,v140,v141,v142,v143,v144,v145,v146,v147,v148,v149,v150,v151,v152,v153,v154,v155,v156,v157,v158,v159,v160,v161,v162,v163,v164,v165,v166,v167,v168,v169,v170,v171,v172,v173,v174,v175,v176,v177,v178,v179,v180,v181,v182,v183,v184,v185,v186,y187,y188,y189,y190,y191,y192,y193,y194,v195,v196,v197,v198,v199,v200,v201,v202,v203,v204,v205,v206,v207,v208,v209,v210,v211,v212,v213,v214,v215,v216,v217,v218,v219,v220,v221,v222,v223,v224,v225,v226,v227,v228,v229,v230,v231,v232,v233,v234,v235,v236,v237,v238,v239,v240,v241,v242,v243,v244,v245,v246,v247,v248,v249,v250,v251,v252,v253],[]⟩) (by kernel_rfl) (Czi (by kernel_rfl)) ?start ?step ?fin
 case start=>
  refine⟨_,_,_,_,_,_,_,_,?_,rfl⟩;constructor
  all_goals first|exact fun _=>hbs|exact fun _=>rfl|exact fun h=>absurd h (by decide)
 case step=>
  intro i o ho listed a W hl haf hI K hK;obtain⟨y187,y188,y189,y190,y191,y192,y193,y194,hJ,rfl⟩:=hI;have hK:=fun (W':World) z187 z188 z189 z190 z191 z192 z193 z194 h=>hK _ W' ⟨z187,z188,z189,z190,z191,z192,z193,z194,h,rfl⟩
  simp only[Az2] at hK;have hi:i<9:=(Array.getElem?_eq_some_iff.1 ho).1;have h16:i=0∨i=1∨i=2∨i=3∨i=4∨i=5∨i=6∨i=7∨i=8:=by omega
  rcases h16 with rfl|rfl|rfl|rfl|rfl|rfl|rfl|rfl|rfl
  all_goals
   have ho:=Option.some.inj ho;subst ho
   try simp[Region.binds] at haf
  ·
    go_simp;apply hK;exact { hJ with f0:=fun _=>rfl }
  ·
    obtain rfl:=hJ.f0 (Az0 (by simp[haf]));go_simp;apply hK;exact { hJ with f1:=fun _=>rfl }
  ·
    obtain rfl:=hJ.f1 (Az0 (by simp[haf]));go_simp;apply hK;exact { hJ with f2:=fun _=>rfl }
  ·
    obtain rfl:=hJ.f2 (Az0 (by simp[haf]));have h8:=nlR hJ.q8_3 hl;have hw:=hJ.w h8;have e1:=(hw.cell (p:=⟨g,4,none⟩) hlg).trans hg4;go_simp;apply hK;exact { hJ with f3:=fun _=>rfl,q8_3:=fun _=>rfl }
  ·
    go_simp;apply hK;exact { hJ with f4:=fun _=>rfl }
  ·
    have h8:=nlR hJ.q8_5 hl;have hw:=hJ.w h8;have hmk:=Nzh;go_simp;apply hK;exact { hJ with f5:=fun _=>⟨W.heap.size,rfl,fun h=>own_base (Lz8 W) hw.size⟩,f6:=fun x=>by obtain⟨s,e1,e2⟩:=hJ.f6 x;exact⟨s,e1,fun h=>(e2 h).alloc _⟩,f8:=fun x=>by have e:=hJ.q8_5 x;rw[hl] at e;exact absurd e (by decide),q8_5:=fun _=>rfl,w:=(fun h=>(hJ.w h).alloc (hJ.w h).size _) }
  ·
    obtain⟨s5,rfl,hE5⟩:=hJ.f5 (Az0 (by simp[haf]));have h8:=nlR hJ.q8_6 hl;have hw:=hJ.w h8;go_simp;apply hK;exact { hJ with f6:=fun _=>⟨_,rfl,fun h=>hE5 h⟩,q8_6:=fun _=>rfl }
  ·
    obtain rfl:=hJ.f3 (Az0 (by simp[haf]));obtain rfl:=hJ.f4 (Az0 (by simp[haf]));have hp4:(p:Int)<4:=by omega
    go_simp;apply hK;exact { hJ with f7:=fun _=>rfl }
  ·
    have p6:listed.getD 6 true=true:=Az0 (by simp[haf]);have p3:listed.getD 3 true=true:=Az0 (by simp[haf]);have p5:listed.getD 5 true=true:=Az0 (by simp[haf]);obtain rfl:=hJ.f7 (Az0 (by simp[haf]));obtain⟨s6,rfl,hE6⟩:=hJ.f6 p6;obtain⟨s5,rfl,hE5⟩:=hJ.f5 p5;have hw:=hJ.w hl;have hO:=hE6 hl;have hlt:b4<W.heap.size:=Nat.lt_of_lt_of_le hlb hw.size;have e0:=(hw.cell (p:=⟨b4,p*2,none⟩) hlb).trans hp0;have e1:=(hw.cell (p:=⟨b4,p*2+1,none⟩) hlb).trans hp1;have f0:=(hw.frozen (p:=⟨b4,p*2,none⟩) hlb).trans hf0;have f1:=(hw.frozen (p:=⟨b4,p*2+1,none⟩) hlb).trans hf1;go_simp;apply hK;exact { hJ with f5:=fun x=>by obtain⟨s,e1,e2⟩:=hJ.f5 x;exact⟨s,e1,tfR⟩,f6:=fun x=>by obtain⟨s,e1,e2⟩:=hJ.f6 x;exact⟨s,e1,tfR⟩,f8:=fun _=>⟨_,W,hw,hO,rfl⟩,q8_3:=fun _=>p3,q8_5:=fun _=>p5,q8_6:=fun _=>p6,w:=tfR }
 case fin=>
  intro listed a W hall hI;obtain⟨y187,y188,y189,y190,y191,y192,y193,y194,hJ,rfl⟩:=hI;exact HQ.out listed W _ _ _ _ _ _ _ _ hall hJ
end Go.Proofs.YtdjamdbamkhblacGreatDoor
