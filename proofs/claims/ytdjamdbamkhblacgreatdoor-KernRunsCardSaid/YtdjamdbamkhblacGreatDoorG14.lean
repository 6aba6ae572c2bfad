/- The drawn regions of the kernel's ask and of the reference's answered: a module's code is run. No condition. By an AI agent (xask.py). The walk of safe.Enter: what it returns, for every region and word. The walk of the reference of safe.Enter: what it returns, for every region and word. -/
import Derived.Test.YtdjamdbamkhblacGreatDoorG13
set_option maxHeartbeats 8000000
set_option maxRecDepth 1000000
namespace Go.Proofs.YtdjamdbamkhblacGreatDoor
open Go.RowKit
set_option linter.unusedVariables false
set_option linter.unusedSimpArgs false
structure AskJ (w0:World) (bw g b0 c0 u nm breg:Nat) (n e:Int) (l:List Ins) (mem:List Int) (Ac Am:Option Addr) (cc cm:Nat) (r:Mc × Nat) (err:Int) (t0t t1t t2t t3t t4t t5t t6t t7t t8t t9t t10t t11t t12t t13t t14t t15t t16t t17t t18t t19t t20t t21t:Bool) (W:World) (y10 y11 y18 y19 y20 y21 y22 y23 y24 y25 y26 y27 y28 y29 y30 y31 y32 y33 y34 y35 y36:Value):Prop where
 f0:t0t=true→y19= .pointer (some ⟨bw,0,none⟩)
 f1:t1t=true→y20= .pointer (some ⟨g,0,none⟩)
 f2:t2t=true→y21= .pointer (some ⟨g,0,none⟩)
 f3:t3t=true→y22= .pointer (some ⟨g,0,none⟩)
 f4:t4t=true→y23= .slice (some ⟨b0,0,none⟩) nm c0
 f5:t5t=true→y24= .int .i64 (u:Int)
 f6:t6t=true→y25= .pointer (some ⟨b0,u*3,none⟩)
 f7:t7t=true→y26= .pointer (some ⟨b0,u*3+1,none⟩)
 f8:t8t=true→y27= .slice Ac l.length cc
 f9:t9t=true→y28= .agg #[.int .i64 n, .int .i64 0, .int .i64 0, .int .i64 0, .int .i64 e, .int .i64 e, .int .i64 63, .int .i64 0]
 f10:t10t=true→y29= .pointer (some ⟨bw,0,none⟩)
 f11:t11t=true→y30= .pointer (some ⟨g,0,none⟩)
 f12:t12t=true→y31= .pointer (some ⟨g,0,none⟩)
 f13:t13t=true→y32= .pointer (some ⟨g,1,none⟩)
 f14:t14t=true→y33= .slice Am mem.length cm
 f15:t15t=true→∃ s:Value × Value,y34= .tuple #[(outV r.2 r.1.regs s.1 s.2), .int .i64 err]∧RunOut w0 W r s.1 s.2
 f16:t16t=true→∃ s:Value × Value,y18= .tuple #[(outV r.2 r.1.regs s.1 s.2), .int .i64 err]∧RunOut w0 W r s.1 s.2
 f17:t17t=true→∃ s:Value × Value,y35=(outV r.2 r.1.regs s.1 s.2)∧RunOut w0 W r s.1 s.2
 f18:t18t=true→y36= .int .i64 err
 f19:t19t=true→∃ s:Nat,y10= .pointer (some ⟨s,0,none⟩)∧w0.heap.size≤s∧(t20t=false→Blk W s 133 #[.int .i64 0, .int .i64 0, .int .i64 0, .int .i64 0, .int .i64 0, .int .i64 0, .int .i64 0, .int .i64 0, .int .i64 0, .slice none 0 0, .slice none 0 0])
 f20:t20t=true→∃ (s:Nat) (T M:Value),y10= .pointer (some ⟨s,0,none⟩)∧w0.heap.size≤s∧Blk W s 133 (outC r.2 r.1.regs T M)∧RunOut w0 W r T M
 f21:t21t=true→y11= .int .i64 err
 q20_15:t20t=true→t15t=true
 q20_19:t20t=true→t19t=true
 w:Below w0.heap.size w0 W
noncomputable def Qzj:Code:=((Tryz.f84.body.bind (Czf 2)).getD .skip)
theorem Szb (w0:World) (bw g b0 c0 u nm breg:Nat) (n e:Int) (l:List Ins) (mem:List Int) (Ac Am:Option Addr) (cc cm:Nat) (r:Mc × Nat) (err:Int) {v0 v2 v4 v5 v6 v7 v9 v10 v11 v12 v13 v14 v15 v16 v17 v18 v19 v20 v21 v22 v23 v24 v25 v26 v27 v28 v29 v30 v31 v32 v33 v34 v35 v36 v37 v38 v39 v40 v41 v42 v43 v44 v45 v46 v47 v48 v49 v50 v51 v52:Value} (wr:World) (Q:Exit→Act→World→Prop) (hbs:Below w0.heap.size w0 wr.drew) (hlw:bw<w0.heap.size) (hw0:w0.cell? ⟨bw,0,none⟩=some (.pointer (some ⟨g,0,none⟩))) (hlg:g<w0.heap.size) (hg0:w0.cell? ⟨g,0,none⟩=some (.slice (some ⟨b0,0,none⟩) nm c0)) (hg1:w0.cell? ⟨g,1,none⟩=some (.slice Am mem.length cm)) (hlb:b0<w0.heap.size) (hm1:w0.cell? ⟨b0,u*3+1,none⟩=some (.slice Ac l.length cc)) (hu:u<nm) (hreg:∀ W:World,Below w0.heap.size w0 W→W.cell? ⟨breg,0,none⟩=some (.int .i64 n)∧W.cell? ⟨breg,1,none⟩=some (.int .i64 0)∧W.cell? ⟨breg,2,none⟩=some (.int .i64 0)∧W.cell? ⟨breg,3,none⟩=some (.int .i64 0)∧W.cell? ⟨breg,4,none⟩=some (.int .i64 e)∧W.cell? ⟨breg,5,none⟩=some (.int .i64 e)∧W.cell? ⟨breg,6,none⟩=some (.int .i64 63)∧W.cell? ⟨breg,7,none⟩=some (.int .i64 0)) (hcall:∀ W:World,Below w0.heap.size w0 W→Calls Tryz.prog 96 #[.slice Ac l.length cc, .agg #[.int .i64 n, .int .i64 0, .int .i64 0, .int .i64 0, .int .i64 e, .int .i64 e, .int .i64 63, .int .i64 0], .slice Am mem.length cm, .int .i64 2000] W (RunPost W r err))
  (hQ:∀ (listed:Array Bool) (W:World) (y10 y11 y18 y19 y20 y21 y22 y23 y24 y25 y26 y27 y28 y29 y30 y31 y32 y33 y34 y35 y36:Value),(∀ i,i<22→listed.getD i true=true)→AskJ w0 bw g b0 c0 u nm breg n e l mem Ac Am cc cm r err (listed.getD 0 true) (listed.getD 1 true) (listed.getD 2 true) (listed.getD 3 true) (listed.getD 4 true) (listed.getD 5 true) (listed.getD 6 true) (listed.getD 7 true) (listed.getD 8 true) (listed.getD 9 true) (listed.getD 10 true) (listed.getD 11 true) (listed.getD 12 true) (listed.getD 13 true) (listed.getD 14 true) (listed.getD 15 true) (listed.getD 16 true) (listed.getD 17 true) (listed.getD 18 true) (listed.getD 19 true) (listed.getD 20 true) (listed.getD 21 true) W y10 y11 y18 y19 y20 y21 y22 y23 y24 y25 y26 y27 y28 y29 y30 y31 y32 y33 y34 y35 y36→Q .normal ⟨#[v0, .int .i64 (u:Int),v2, .pointer (some ⟨bw,0,none⟩),v4,v5,v6,v7, .pointer (some ⟨breg,0,none⟩),v9,y10,y11,v12,v13,v14,v15,v16,v17,y18,y19,y20,y21,y22,y23,y24,y25,y26,y27,y28,y29,y30,y31,y32,y33,y34,y35,y36,v37,v38,v39,v40,v41,v42,v43,v44,v45,v46,v47,v48,v49,v50,v51,v52],[]⟩ W):
  Code.wp Tryz.prog Qzj Q ⟨#[v0, .int .i64 (u:Int),v2, .pointer (some ⟨bw,0,none⟩),v4,v5,v6,v7, .pointer (some ⟨breg,0,none⟩),v9,v10,v11,v12,v13,v14,v15,v16,v17,v18,v19,v20,v21,v22,v23,v24,v25,v26,v27,v28,v29,v30,v31,v32,v33,v34,v35,v36,v37,v38,v39,v40,v41,v42,v43,v44,v45,v46,v47,v48,v49,v50,v51,v52],[]⟩ wr:=by
 have HQ:=Lib.hid hQ;clear hQ;conv=>arg 2;whnf
 refine Azj (fun listed a W=>∃ y10 y11 y18 y19 y20 y21 y22 y23 y24 y25 y26 y27 y28 y29 y30 y31 y32 y33 y34 y35 y36,AskJ w0 bw g b0 c0 u nm breg n e l mem Ac Am cc cm r err (listed.getD 0 true) (listed.getD 1 true) (listed.getD 2 true) (listed.getD 3 true) (listed.getD 4 true) (listed.getD 5 true) (listed.getD 6 true) (listed.getD 7 true) (listed.getD 8 true) (listed.getD 9 true) (listed.getD 10 true) (listed.getD 11 true) (listed.getD 12 true) (listed.getD 13 true) (listed.getD 14 true) (listed.getD 15 true) (listed.getD 16 true) (listed.getD 17 true) (listed.getD 18 true) (listed.getD 19 true) (listed.getD 20 true) (listed.getD 21 true) W y10 y11 y18 y19 y20 y21 y22 y23 y24 y25 y26 y27 y28 y29 y30 y31 y32 y33 y34 y35 y36∧a=⟨#[v0, .int .i64 (u:Int),v2, .pointer (some ⟨bw,0,none⟩),v4,v5,v6,v7, .pointer (some ⟨breg,0,none⟩),v9,y10,y11,v12,v13,v14,v15,v16,v17,y18,y19,y20,y21,y22,y23,y24,y25,y26,y27,y28,y29,y30,y31,y32,y33,y34,y35,y36,v37,v38,v39,v40,v41,v42,v43,v44,v45,v46,v47,v48,v49,v50,v51,v52],[]⟩) (by kernel_rfl) (Czi (by kernel_rfl)) ?start ?step ?fin
 case start=>
  refine⟨_,_,_,_,_,_,_,_,_,_,_,_,_,_,_,_,_,_,_,_,_,?_,rfl⟩;constructor
  all_goals first|exact hbs|exact fun _=>rfl|exact fun h=>absurd h (by decide)
 case step=>
  intro i o ho listed a W hl haf hI K hK;obtain⟨y10,y11,y18,y19,y20,y21,y22,y23,y24,y25,y26,y27,y28,y29,y30,y31,y32,y33,y34,y35,y36,hJ,rfl⟩:=hI;have hK:=fun (W':World) z10 z11 z18 z19 z20 z21 z22 z23 z24 z25 z26 z27 z28 z29 z30 z31 z32 z33 z34 z35 z36 h=>hK _ W' ⟨z10,z11,z18,z19,z20,z21,z22,z23,z24,z25,z26,z27,z28,z29,z30,z31,z32,z33,z34,z35,z36,h,rfl⟩
  simp only[Az2] at hK;have hi:i<22:=(Array.getElem?_eq_some_iff.1 ho).1;have h16:i=0∨i=1∨i=2∨i=3∨i=4∨i=5∨i=6∨i=7∨i=8∨i=9∨i=10∨i=11∨i=12∨i=13∨i=14∨i=15∨i=16∨i=17∨i=18∨i=19∨i=20∨i=21:=by omega
  rcases h16 with rfl|rfl|rfl|rfl|rfl|rfl|rfl|rfl|rfl|rfl|rfl|rfl|rfl|rfl|rfl|rfl|rfl|rfl|rfl|rfl|rfl|rfl
  all_goals
   have ho:=Option.some.inj ho;subst ho
   try simp[Region.binds] at haf
  ·
    go_simp;apply hK;exact { hJ with f0:=fun _=>rfl }
  ·
    obtain rfl:=hJ.f0 (Az0 (by simp[haf]));have e1:=(hJ.w.cell (p:=⟨bw,0,none⟩) hlw).trans hw0;go_simp;apply hK;exact { hJ with f1:=fun _=>rfl }
  ·
    obtain rfl:=hJ.f1 (Az0 (by simp[haf]));go_simp;apply hK;exact { hJ with f2:=fun _=>rfl }
  ·
    obtain rfl:=hJ.f2 (Az0 (by simp[haf]));go_simp;apply hK;exact { hJ with f3:=fun _=>rfl }
  ·
    obtain rfl:=hJ.f3 (Az0 (by simp[haf]));have e1:=(hJ.w.cell (p:=⟨g,0,none⟩) hlg).trans hg0;go_simp;apply hK;exact { hJ with f4:=fun _=>rfl }
  ·
    go_simp;apply hK;exact { hJ with f5:=fun _=>rfl }
  ·
    obtain rfl:=hJ.f4 (Az0 (by simp[haf]));obtain rfl:=hJ.f5 (Az0 (by simp[haf]));have hu1:(u:Int)<(nm:Int):=by omega
    go_simp;apply hK;exact { hJ with f6:=fun _=>rfl }
  ·
    obtain rfl:=hJ.f6 (Az0 (by simp[haf]));go_simp;apply hK;exact { hJ with f7:=fun _=>rfl }
  ·
    obtain rfl:=hJ.f7 (Az0 (by simp[haf]));have e1:=(hJ.w.cell (p:=⟨b0,u*3+1,none⟩) hlb).trans hm1;go_simp;apply hK;exact { hJ with f8:=fun _=>rfl }
  ·
    obtain⟨q0,q1,q2,q3,q4,q5,q6,q7⟩:=hreg W hJ.w;go_simp;apply hK;exact { hJ with f9:=fun _=>rfl }
  ·
    go_simp;apply hK;exact { hJ with f10:=fun _=>rfl }
  ·
    obtain rfl:=hJ.f10 (Az0 (by simp[haf]));have e1:=(hJ.w.cell (p:=⟨bw,0,none⟩) hlw).trans hw0;go_simp;apply hK;exact { hJ with f11:=fun _=>rfl }
  ·
    obtain rfl:=hJ.f11 (Az0 (by simp[haf]));go_simp;apply hK;exact { hJ with f12:=fun _=>rfl }
  ·
    obtain rfl:=hJ.f12 (Az0 (by simp[haf]));go_simp;apply hK;exact { hJ with f13:=fun _=>rfl }
  ·
    obtain rfl:=hJ.f13 (Az0 (by simp[haf]));have e1:=(hJ.w.cell (p:=⟨g,1,none⟩) hlg).trans hg1;go_simp;apply hK;exact { hJ with f14:=fun _=>rfl }
  ·
    obtain rfl:=hJ.f8 (Az0 (by simp[haf]));obtain rfl:=hJ.f9 (Az0 (by simp[haf]));obtain rfl:=hJ.f14 (Az0 (by simp[haf]));have hc:=hcall W hJ.w;go_simp;go_at_call 96;refine hc.mono ?_;rintro e' w2 ⟨T,M,rfl,hT,hM,hb2⟩;apply hK;exact { hJ with f15:=fun _=>⟨(T,M),rfl,own_base hT hJ.w.size,own_base hM hJ.w.size⟩,f16:=fun x=>by obtain⟨s,e1,e2⟩:=hJ.f16 x;exact⟨s,e1,RunOut.below e2 hb2⟩,f17:=fun x=>by obtain⟨s,e1,e2⟩:=hJ.f17 x;exact⟨s,e1,RunOut.below e2 hb2⟩,f19:=fun x=>by obtain⟨s,e1,e2⟩:=hJ.f19 x;exact⟨s,e1,⟨e2.1,fun e=>(e2.2 e).below hb2 (e2.2 e).lt⟩⟩,f20:=fun x=>by have e:=hJ.q20_15 x;rw[hl] at e;exact absurd e (by decide),q20_15:=fun _=>rfl,w:=hJ.w.trans (hb2.mono hJ.w.size) }
  ·
    obtain⟨s15,rfl,hE15⟩:=hJ.f15 (Az0 (by simp[haf]));go_simp;apply hK;exact { hJ with f16:=fun _=>⟨s15,rfl,hE15⟩ }
  ·
    obtain⟨s16,rfl,hE16⟩:=hJ.f16 (Az0 (by simp[haf]));go_simp;apply hK;exact { hJ with f17:=fun _=>⟨s16,rfl,hE16⟩ }
  ·
    obtain⟨s16,rfl,hE16⟩:=hJ.f16 (Az0 (by simp[haf]));go_simp;apply hK;exact { hJ with f18:=fun _=>rfl }
  ·
    go_simp;apply hK;exact { hJ with f15:=fun x=>by obtain⟨s,e1,e2⟩:=hJ.f15 x;exact⟨s,e1,RunOut.below e2 ((Below.refl _ _).alloc (Nat.le_refl _) _)⟩,f16:=fun x=>by obtain⟨s,e1,e2⟩:=hJ.f16 x;exact⟨s,e1,RunOut.below e2 ((Below.refl _ _).alloc (Nat.le_refl _) _)⟩,f17:=fun x=>by obtain⟨s,e1,e2⟩:=hJ.f17 x;exact⟨s,e1,RunOut.below e2 ((Below.refl _ _).alloc (Nat.le_refl _) _)⟩,f19:=fun _=>⟨W.heap.size,rfl,hJ.w.size,fun _=>Blk.new _ _ _⟩,f20:=fun x=>by have e:=hJ.q20_19 x;rw[hl] at e;exact absurd e (by decide),q20_19:=fun _=>rfl,w:=hJ.w.alloc hJ.w.size _ }
  ·
    have p19:listed.getD 19 true=true:=Az0 (by simp[haf]);have p15:listed.getD 15 true=true:=Az0 (by simp[haf]);obtain⟨s19,rfl,hE19⟩:=hJ.f19 p19;obtain⟨s17,rfl,hE17⟩:=hJ.f17 (Az0 (by simp[haf]));obtain⟨s15,rfl,hE15⟩:=hJ.f15 p15;obtain⟨hge,hbl⟩:=hE19;have hbl:=hbl hl;obtain⟨m0,m1,m2,m3,m4,m5,m6,m7,m8,m9,m10,fz0,fz1,fz2,fz3,fz4,fz5,fz6,fz7,fz8,fz9,fz10,hlt⟩:=hbl.a11;simp at m0 m1 m2 m3 m4 m5 m6 m7 m8 m9 m10;obtain⟨T,M⟩:=s17;have hET:W.ownsRow w0.heap.size 3 1 T r.1.told.length (Azx r.1.told):=hE17.1;have hEM:W.ownsRow w0.heap.size 3 1 M r.1.mem.length (Azx r.1.mem):=hE17.2;obtain⟨AT,cT,rfl⟩:=Az1 hET;obtain⟨AM,cM,rfl⟩:=Az1 hEM;have HL:=Lib.hid (Szm (B:=w0.heap.size) hge hbl (natV r.2) (natV (r.1.regs.getD 0 0)) (natV (r.1.regs.getD 1 0)) (natV (r.1.regs.getD 2 0)) (natV (r.1.regs.getD 3 0)) (natV (r.1.regs.getD 4 0)) (natV (r.1.regs.getD 5 0)) (natV (r.1.regs.getD 6 0)) (natV (r.1.regs.getD 7 0)) (.slice AT r.1.told.length cT) (.slice AM r.1.mem.length cM));unfold outV natV;go_simp;have L:=HL.out;apply hK;exact { hJ with f15:=fun x=>by obtain⟨s,e1,e2⟩:=hJ.f15 x;exact⟨s,e1,RunOut.tch e2 L.2.1 (by decide)⟩,f16:=fun x=>by obtain⟨s,e1,e2⟩:=hJ.f16 x;exact⟨s,e1,RunOut.tch e2 L.2.1 (by decide)⟩,f17:=fun x=>by obtain⟨s,e1,e2⟩:=hJ.f17 x;exact⟨s,e1,RunOut.tch e2 L.2.1 (by decide)⟩,f19:=fun x=>by obtain⟨s,e1,e2⟩:=hJ.f19 x;exact⟨s,e1,⟨e2.1,tfR⟩⟩,f20:=fun _=>⟨s19,_,_,rfl,hge,L.1,RunOut.tch (T:= .slice AT r.1.told.length cT) (M:= .slice AM r.1.mem.length cM) ⟨hET,hEM⟩ L.2.1 (by decide)⟩,q20_15:=fun _=>p15,q20_19:=fun _=>p19,w:=hJ.w.trans L.2.2 }
  ·
    obtain rfl:=hJ.f18 (Az0 (by simp[haf]));go_simp;apply hK;exact { hJ with f21:=fun _=>rfl }
 case fin=>
  intro listed a W hall hI;obtain⟨y10,y11,y18,y19,y20,y21,y22,y23,y24,y25,y26,y27,y28,y29,y30,y31,y32,y33,y34,y35,y36,hJ,rfl⟩:=hI;exact HQ.out listed W _ _ _ _ _ _ _ _ _ _ _ _ _ _ _ _ _ _ _ _ _ hall hJ
structure AwJ (w0:World) (bw g b0 c0 u nm breg:Nat) (n e:Int) (l:List Ins) (mem:List Int) (Ac Am:Option Addr) (cc cm:Nat) (r:Mc × Nat) (err:Int) (t0t t1t t2t t3t t4t t5t t6t t7t t8t t9t t10t t11t t12t t13t t14t t15t t16t t17t t18t t19t:Bool) (W:World) (y10 y11 y18 y19 y20 y21 y22 y23 y24 y25 y26 y27 y28 y29 y30 y31 y32 y33 y34:Value):Prop where
 f0:t0t=true→y19= .pointer (some ⟨g,0,none⟩)
 f1:t1t=true→y20= .pointer (some ⟨g,0,none⟩)
 f2:t2t=true→y21= .pointer (some ⟨g,0,none⟩)
 f3:t3t=true→y22= .slice (some ⟨b0,0,none⟩) nm c0
 f4:t4t=true→y23= .int .i64 (u:Int)
 f5:t5t=true→y24= .pointer (some ⟨b0,u*3,none⟩)
 f6:t6t=true→y25= .pointer (some ⟨b0,u*3+1,none⟩)
 f7:t7t=true→y26= .slice Ac l.length cc
 f8:t8t=true→y27= .agg #[.int .i64 n, .int .i64 0, .int .i64 0, .int .i64 0, .int .i64 e, .int .i64 e, .int .i64 63, .int .i64 0]
 f9:t9t=true→y28= .pointer (some ⟨g,0,none⟩)
 f10:t10t=true→y29= .pointer (some ⟨g,0,none⟩)
 f11:t11t=true→y30= .pointer (some ⟨g,1,none⟩)
 f12:t12t=true→y31= .slice Am mem.length cm
 f13:t13t=true→∃ s:Value × Value,y32= .tuple #[(outV r.2 r.1.regs s.1 s.2), .int .i64 err]∧RunOut w0 W r s.1 s.2
 f14:t14t=true→∃ s:Value × Value,y18= .tuple #[(outV r.2 r.1.regs s.1 s.2), .int .i64 err]∧RunOut w0 W r s.1 s.2
 f15:t15t=true→∃ s:Value × Value,y33=(outV r.2 r.1.regs s.1 s.2)∧RunOut w0 W r s.1 s.2
 f16:t16t=true→y34= .int .i64 err
 f17:t17t=true→∃ s:Nat,y10= .pointer (some ⟨s,0,none⟩)∧w0.heap.size≤s∧(t18t=false→Blk W s 133 #[.int .i64 0, .int .i64 0, .int .i64 0, .int .i64 0, .int .i64 0, .int .i64 0, .int .i64 0, .int .i64 0, .int .i64 0, .slice none 0 0, .slice none 0 0])
 f18:t18t=true→∃ (s:Nat) (T M:Value),y10= .pointer (some ⟨s,0,none⟩)∧w0.heap.size≤s∧Blk W s 133 (outC r.2 r.1.regs T M)∧RunOut w0 W r T M
 f19:t19t=true→y11= .int .i64 err
 q18_13:t18t=true→t13t=true
 q18_17:t18t=true→t17t=true
 w:Below w0.heap.size w0 W
noncomputable def Sze:Code:=((Tryz.f87.body.bind (Czf 2)).getD .skip)
theorem Tz7 (w0:World) (bw g b0 c0 u nm breg:Nat) (n e:Int) (l:List Ins) (mem:List Int) (Ac Am:Option Addr) (cc cm:Nat) (r:Mc × Nat) (err:Int) {v2 v3 v4 v5 v6 v7 v9 v10 v11 v12 v13 v14 v15 v16 v17 v18 v19 v20 v21 v22 v23 v24 v25 v26 v27 v28 v29 v30 v31 v32 v33 v34 v35 v36 v37 v38 v39 v40 v41 v42 v43 v44 v45:Value} (wr:World) (Q:Exit→Act→World→Prop) (hbs:Below w0.heap.size w0 wr.drew) (hlg:g<w0.heap.size) (hg0:w0.cell? ⟨g,0,none⟩=some (.slice (some ⟨b0,0,none⟩) nm c0)) (hg1:w0.cell? ⟨g,1,none⟩=some (.slice Am mem.length cm)) (hlb:b0<w0.heap.size) (hm1:w0.cell? ⟨b0,u*3+1,none⟩=some (.slice Ac l.length cc)) (hu:u<nm) (hreg:∀ W:World,Below w0.heap.size w0 W→W.cell? ⟨breg,0,none⟩=some (.int .i64 n)∧W.cell? ⟨breg,1,none⟩=some (.int .i64 0)∧W.cell? ⟨breg,2,none⟩=some (.int .i64 0)∧W.cell? ⟨breg,3,none⟩=some (.int .i64 0)∧W.cell? ⟨breg,4,none⟩=some (.int .i64 e)∧W.cell? ⟨breg,5,none⟩=some (.int .i64 e)∧W.cell? ⟨breg,6,none⟩=some (.int .i64 63)∧W.cell? ⟨breg,7,none⟩=some (.int .i64 0)) (hcall:∀ W:World,Below w0.heap.size w0 W→Calls Tryz.prog 102 #[.slice Ac l.length cc, .agg #[.int .i64 n, .int .i64 0, .int .i64 0, .int .i64 0, .int .i64 e, .int .i64 e, .int .i64 63, .int .i64 0], .slice Am mem.length cm, .int .i64 2000] W (RunPost W r err))
  (hQ:∀ (listed:Array Bool) (W:World) (y10 y11 y18 y19 y20 y21 y22 y23 y24 y25 y26 y27 y28 y29 y30 y31 y32 y33 y34:Value),(∀ i,i<20→listed.getD i true=true)→AwJ w0 bw g b0 c0 u nm breg n e l mem Ac Am cc cm r err (listed.getD 0 true) (listed.getD 1 true) (listed.getD 2 true) (listed.getD 3 true) (listed.getD 4 true) (listed.getD 5 true) (listed.getD 6 true) (listed.getD 7 true) (listed.getD 8 true) (listed.getD 9 true) (listed.getD 10 true) (listed.getD 11 true) (listed.getD 12 true) (listed.getD 13 true) (listed.getD 14 true) (listed.getD 15 true) (listed.getD 16 true) (listed.getD 17 true) (listed.getD 18 true) (listed.getD 19 true) W y10 y11 y18 y19 y20 y21 y22 y23 y24 y25 y26 y27 y28 y29 y30 y31 y32 y33 y34→Q .normal ⟨#[.pointer (some ⟨g,0,none⟩), .int .i64 (u:Int),v2,v3,v4,v5,v6,v7, .pointer (some ⟨breg,0,none⟩),v9,y10,y11,v12,v13,v14,v15,v16,v17,y18,y19,y20,y21,y22,y23,y24,y25,y26,y27,y28,y29,y30,y31,y32,y33,y34,v35,v36,v37,v38,v39,v40,v41,v42,v43,v44,v45],[]⟩ W):
  Code.wp Tryz.prog Sze Q ⟨#[.pointer (some ⟨g,0,none⟩), .int .i64 (u:Int),v2,v3,v4,v5,v6,v7, .pointer (some ⟨breg,0,none⟩),v9,v10,v11,v12,v13,v14,v15,v16,v17,v18,v19,v20,v21,v22,v23,v24,v25,v26,v27,v28,v29,v30,v31,v32,v33,v34,v35,v36,v37,v38,v39,v40,v41,v42,v43,v44,v45],[]⟩ wr:=by
 have HQ:=Lib.hid hQ;clear hQ;conv=>arg 2;whnf
 refine Azj (fun listed a W=>∃ y10 y11 y18 y19 y20 y21 y22 y23 y24 y25 y26 y27 y28 y29 y30 y31 y32 y33 y34,AwJ w0 bw g b0 c0 u nm breg n e l mem Ac Am cc cm r err (listed.getD 0 true) (listed.getD 1 true) (listed.getD 2 true) (listed.getD 3 true) (listed.getD 4 true) (listed.getD 5 true) (listed.getD 6 true) (listed.getD 7 true) (listed.getD 8 true) (listed.getD 9 true) (listed.getD 10 true) (listed.getD 11 true) (listed.getD 12 true) (listed.getD 13 true) (listed.getD 14 true) (listed.getD 15 true) (listed.getD 16 true) (listed.getD 17 true) (listed.getD 18 true) (listed.getD 19 true) W y10 y11 y18 y19 y20 y21 y22 y23 y24 y25 y26 y27 y28 y29 y30 y31 y32 y33 y34∧a=⟨#[.pointer (some ⟨g,0,none⟩), .int .i64 (u:Int),v2,v3,v4,v5,v6,v7, .pointer (some ⟨breg,0,none⟩),v9,y10,y11,v12,v13,v14,v15,v16,v17,y18,y19,y20,y21,y22,y23,y24,y25,y26,y27,y28,y29,y30,y31,y32,y33,y34,v35,v36,v37,v38,v39,v40,v41,v42,v43,v44,v45],[]⟩) (by kernel_rfl) (Czi (by kernel_rfl)) ?start ?step ?fin
 case start=>
  refine⟨_,_,_,_,_,_,_,_,_,_,_,_,_,_,_,_,_,_,_,?_,rfl⟩;constructor
  all_goals first|exact hbs|exact fun _=>rfl|exact fun h=>absurd h (by decide)
 case step=>
  intro i o ho listed a W hl haf hI K hK;obtain⟨y10,y11,y18,y19,y20,y21,y22,y23,y24,y25,y26,y27,y28,y29,y30,y31,y32,y33,y34,hJ,rfl⟩:=hI;have hK:=fun (W':World) z10 z11 z18 z19 z20 z21 z22 z23 z24 z25 z26 z27 z28 z29 z30 z31 z32 z33 z34 h=>hK _ W' ⟨z10,z11,z18,z19,z20,z21,z22,z23,z24,z25,z26,z27,z28,z29,z30,z31,z32,z33,z34,h,rfl⟩
  simp only[Az2] at hK;have hi:i<20:=(Array.getElem?_eq_some_iff.1 ho).1;have h16:i=0∨i=1∨i=2∨i=3∨i=4∨i=5∨i=6∨i=7∨i=8∨i=9∨i=10∨i=11∨i=12∨i=13∨i=14∨i=15∨i=16∨i=17∨i=18∨i=19:=by omega
  rcases h16 with rfl|rfl|rfl|rfl|rfl|rfl|rfl|rfl|rfl|rfl|rfl|rfl|rfl|rfl|rfl|rfl|rfl|rfl|rfl|rfl
  all_goals
   have ho:=Option.some.inj ho;subst ho
   try simp[Region.binds] at haf
  ·
    go_simp;apply hK;exact { hJ with f0:=fun _=>rfl }
  ·
    obtain rfl:=hJ.f0 (Az0 (by simp[haf]));go_simp;apply hK;exact { hJ with f1:=fun _=>rfl }
  ·
    obtain rfl:=hJ.f1 (Az0 (by simp[haf]));go_simp;apply hK;exact { hJ with f2:=fun _=>rfl }
  ·
    obtain rfl:=hJ.f2 (Az0 (by simp[haf]));have e1:=(hJ.w.cell (p:=⟨g,0,none⟩) hlg).trans hg0;go_simp;apply hK;exact { hJ with f3:=fun _=>rfl }
  ·
    go_simp;apply hK;exact { hJ with f4:=fun _=>rfl }
  ·
    obtain rfl:=hJ.f3 (Az0 (by simp[haf]));obtain rfl:=hJ.f4 (Az0 (by simp[haf]));have hu1:(u:Int)<(nm:Int):=by omega
    go_simp;apply hK;exact { hJ with f5:=fun _=>rfl }
  ·
    obtain rfl:=hJ.f5 (Az0 (by simp[haf]));go_simp;apply hK;exact { hJ with f6:=fun _=>rfl }
  ·
    obtain rfl:=hJ.f6 (Az0 (by simp[haf]));have e1:=(hJ.w.cell (p:=⟨b0,u*3+1,none⟩) hlb).trans hm1;go_simp;apply hK;exact { hJ with f7:=fun _=>rfl }
  ·
    obtain⟨q0,q1,q2,q3,q4,q5,q6,q7⟩:=hreg W hJ.w;go_simp;apply hK;exact { hJ with f8:=fun _=>rfl }
  ·
    go_simp;apply hK;exact { hJ with f9:=fun _=>rfl }
  ·
    obtain rfl:=hJ.f9 (Az0 (by simp[haf]));go_simp;apply hK;exact { hJ with f10:=fun _=>rfl }
  ·
    obtain rfl:=hJ.f10 (Az0 (by simp[haf]));go_simp;apply hK;exact { hJ with f11:=fun _=>rfl }
  ·
    obtain rfl:=hJ.f11 (Az0 (by simp[haf]));have e1:=(hJ.w.cell (p:=⟨g,1,none⟩) hlg).trans hg1;go_simp;apply hK;exact { hJ with f12:=fun _=>rfl }
  ·
    obtain rfl:=hJ.f7 (Az0 (by simp[haf]));obtain rfl:=hJ.f8 (Az0 (by simp[haf]));obtain rfl:=hJ.f12 (Az0 (by simp[haf]));have hc:=hcall W hJ.w;go_simp;go_at_call 102;refine hc.mono ?_;rintro e' w2 ⟨T,M,rfl,hT,hM,hb2⟩;apply hK;exact { hJ with f13:=fun _=>⟨(T,M),rfl,own_base hT hJ.w.size,own_base hM hJ.w.size⟩,f14:=fun x=>by obtain⟨s,e1,e2⟩:=hJ.f14 x;exact⟨s,e1,RunOut.below e2 hb2⟩,f15:=fun x=>by obtain⟨s,e1,e2⟩:=hJ.f15 x;exact⟨s,e1,RunOut.below e2 hb2⟩,f17:=fun x=>by obtain⟨s,e1,e2⟩:=hJ.f17 x;exact⟨s,e1,⟨e2.1,fun e=>(e2.2 e).below hb2 (e2.2 e).lt⟩⟩,f18:=fun x=>by have e:=hJ.q18_13 x;rw[hl] at e;exact absurd e (by decide),q18_13:=fun _=>rfl,w:=hJ.w.trans (hb2.mono hJ.w.size) }
  ·
    obtain⟨s13,rfl,hE13⟩:=hJ.f13 (Az0 (by simp[haf]));go_simp;apply hK;exact { hJ with f14:=fun _=>⟨s13,rfl,hE13⟩ }
  ·
    obtain⟨s14,rfl,hE14⟩:=hJ.f14 (Az0 (by simp[haf]));go_simp;apply hK;exact { hJ with f15:=fun _=>⟨s14,rfl,hE14⟩ }
  ·
    obtain⟨s14,rfl,hE14⟩:=hJ.f14 (Az0 (by simp[haf]));go_simp;apply hK;exact { hJ with f16:=fun _=>rfl }
  ·
    go_simp;apply hK;exact { hJ with f13:=fun x=>by obtain⟨s,e1,e2⟩:=hJ.f13 x;exact⟨s,e1,RunOut.below e2 ((Below.refl _ _).alloc (Nat.le_refl _) _)⟩,f14:=fun x=>by obtain⟨s,e1,e2⟩:=hJ.f14 x;exact⟨s,e1,RunOut.below e2 ((Below.refl _ _).alloc (Nat.le_refl _) _)⟩,f15:=fun x=>by obtain⟨s,e1,e2⟩:=hJ.f15 x;exact⟨s,e1,RunOut.below e2 ((Below.refl _ _).alloc (Nat.le_refl _) _)⟩,f17:=fun _=>⟨W.heap.size,rfl,hJ.w.size,fun _=>Blk.new _ _ _⟩,f18:=fun x=>by have e:=hJ.q18_17 x;rw[hl] at e;exact absurd e (by decide),q18_17:=fun _=>rfl,w:=hJ.w.alloc hJ.w.size _ }
  ·
    have p17:listed.getD 17 true=true:=Az0 (by simp[haf]);have p13:listed.getD 13 true=true:=Az0 (by simp[haf]);obtain⟨s17,rfl,hE17⟩:=hJ.f17 p17;obtain⟨s15,rfl,hE15⟩:=hJ.f15 (Az0 (by simp[haf]));obtain⟨s13,rfl,hE13⟩:=hJ.f13 p13;obtain⟨hge,hbl⟩:=hE17;have hbl:=hbl hl;obtain⟨m0,m1,m2,m3,m4,m5,m6,m7,m8,m9,m10,fz0,fz1,fz2,fz3,fz4,fz5,fz6,fz7,fz8,fz9,fz10,hlt⟩:=hbl.a11;simp at m0 m1 m2 m3 m4 m5 m6 m7 m8 m9 m10;obtain⟨T,M⟩:=s15;have hET:W.ownsRow w0.heap.size 3 1 T r.1.told.length (Azx r.1.told):=hE15.1;have hEM:W.ownsRow w0.heap.size 3 1 M r.1.mem.length (Azx r.1.mem):=hE15.2;obtain⟨AT,cT,rfl⟩:=Az1 hET;obtain⟨AM,cM,rfl⟩:=Az1 hEM;have HL:=Lib.hid (Szm (B:=w0.heap.size) hge hbl (natV r.2) (natV (r.1.regs.getD 0 0)) (natV (r.1.regs.getD 1 0)) (natV (r.1.regs.getD 2 0)) (natV (r.1.regs.getD 3 0)) (natV (r.1.regs.getD 4 0)) (natV (r.1.regs.getD 5 0)) (natV (r.1.regs.getD 6 0)) (natV (r.1.regs.getD 7 0)) (.slice AT r.1.told.length cT) (.slice AM r.1.mem.length cM));unfold outV natV;go_simp;have L:=HL.out;apply hK;exact { hJ with f13:=fun x=>by obtain⟨s,e1,e2⟩:=hJ.f13 x;exact⟨s,e1,RunOut.tch e2 L.2.1 (by decide)⟩,f14:=fun x=>by obtain⟨s,e1,e2⟩:=hJ.f14 x;exact⟨s,e1,RunOut.tch e2 L.2.1 (by decide)⟩,f15:=fun x=>by obtain⟨s,e1,e2⟩:=hJ.f15 x;exact⟨s,e1,RunOut.tch e2 L.2.1 (by decide)⟩,f17:=fun x=>by obtain⟨s,e1,e2⟩:=hJ.f17 x;exact⟨s,e1,⟨e2.1,tfR⟩⟩,f18:=fun _=>⟨s17,_,_,rfl,hge,L.1,RunOut.tch (T:= .slice AT r.1.told.length cT) (M:= .slice AM r.1.mem.length cM) ⟨hET,hEM⟩ L.2.1 (by decide)⟩,q18_13:=fun _=>p13,q18_17:=fun _=>p17,w:=hJ.w.trans L.2.2 }
  ·
    obtain rfl:=hJ.f16 (Az0 (by simp[haf]));go_simp;apply hK;exact { hJ with f19:=fun _=>rfl }
 case fin=>
  intro listed a W hall hI;obtain⟨y10,y11,y18,y19,y20,y21,y22,y23,y24,y25,y26,y27,y28,y29,y30,y31,y32,y33,y34,hJ,rfl⟩:=hI;exact HQ.out listed W _ _ _ _ _ _ _ _ _ _ _ _ _ _ _ _ _ _ _ hall hJ
def Dzx (r x:Int):Bool:=decide (r<0∨15<r∨x<0∨65535<x)
def Mzb (a b c d e f g h:Int):Value:= .agg #[.int .i64 a, .int .i64 b, .int .i64 c, .int .i64 d, .int .i64 e, .int .i64 f, .int .i64 g, .int .i64 h]
def entV (r x:Int):Value:= .tuple #[if Dzx r x then Mzb 0 0 0 0 0 0 0 0 else Mzb x 0 0 0 (r*64) (r*64) 63 0, .int .i64 (if Dzx r x then 2 else 0)]
theorem Mzn (r x:Int) (w:World):
  Calls Tryz.prog 95 #[.int .i64 r, .int .i64 x] w fun e w'=>e= .returned (entV r x)∧Below w.heap.size w w':=by
 cases hb:Dzx r x with
 | true=>
   have HB:=Lib.hid hb;have h:r<0∨15<r∨x<0∨65535<x:=by simpa [Dzx] using hb
   clear hb;have hv:Hid (entV r x= .tuple #[Mzb 0 0 0 0 0 0 0 0, .int .i64 2]):=by show _=_;simp[entV,HB.out]
   clear HB;have FIN:Hid (∀ w':World,Below w.heap.size w w'→(Ending.returned (.tuple #[.agg #[.int .i64 0, .int .i64 0, .int .i64 0, .int .i64 0, .int .i64 0, .int .i64 0, .int .i64 0, .int .i64 0], .int .i64 2])= .returned (entV r x)∧Below w.heap.size w w')):=fun w' h=>⟨by rw[hv.out];rfl,h⟩
   clear hv;by_cases h1:r<0
   ·clear h
    go_enter Tryz.func95,Tryz.ntmps95;go_wp2;refine bodyPost_ret (v:= .tuple #[.agg #[.int .i64 0, .int .i64 0, .int .i64 0, .int .i64 0, .int .i64 0, .int .i64 0, .int .i64 0, .int .i64 0], .int .i64 2]) (by simp[results,Tryz.results95,go_sem]) rfl (FIN.out _ ?_)
    exact(Below.refl _ _).alloc (Nat.le_refl _) _
   ·skip
    by_cases h2:15<r
    ·clear h
     go_enter Tryz.func95,Tryz.ntmps95;go_wp2;refine bodyPost_ret (v:= .tuple #[.agg #[.int .i64 0, .int .i64 0, .int .i64 0, .int .i64 0, .int .i64 0, .int .i64 0, .int .i64 0, .int .i64 0], .int .i64 2]) (by simp[results,Tryz.results95,go_sem]) rfl (FIN.out _ ?_)
     exact(Below.refl _ _).alloc (Nat.le_refl _) _
    ·skip
     by_cases h3:x<0
     ·clear h
      go_enter Tryz.func95,Tryz.ntmps95;go_wp2;refine bodyPost_ret (v:= .tuple #[.agg #[.int .i64 0, .int .i64 0, .int .i64 0, .int .i64 0, .int .i64 0, .int .i64 0, .int .i64 0, .int .i64 0], .int .i64 2]) (by simp[results,Tryz.results95,go_sem]) rfl (FIN.out _ ?_)
      exact(Below.refl _ _).alloc (Nat.le_refl _) _
     ·have h4:65535<x:=by omega
      clear h;go_enter Tryz.func95,Tryz.ntmps95;go_wp2;refine bodyPost_ret (v:= .tuple #[.agg #[.int .i64 0, .int .i64 0, .int .i64 0, .int .i64 0, .int .i64 0, .int .i64 0, .int .i64 0, .int .i64 0], .int .i64 2]) (by simp[results,Tryz.results95,go_sem]) rfl (FIN.out _ ?_)
      exact(Below.refl _ _).alloc (Nat.le_refl _) _
 | false=>
   have HB:=Lib.hid hb;have h:¬ (r<0∨15<r∨x<0∨65535<x):=by simpa [Dzx] using hb
   have h1:0≤r:=by omega
   have h2:r≤15:=by omega
   have h3:0≤x:=by omega
   have h4:x≤65535:=by omega
   clear hb h;have hv:Hid (entV r x= .tuple #[Mzb x 0 0 0 (r*64) (r*64) 63 0, .int .i64 0]):=by show _=_;simp[entV,HB.out]
   clear HB;have FIN:Hid (∀ w':World,Below w.heap.size w w'→(Ending.returned (.tuple #[.agg #[.int .i64 x, .int .i64 0, .int .i64 0, .int .i64 0, .int .i64 (r*64), .int .i64 (r*64), .int .i64 63, .int .i64 0], .int .i64 0])= .returned (entV r x)∧Below w.heap.size w w')):=fun w' h=>⟨by rw[hv.out];rfl,h⟩
   clear hv;go_enter Tryz.func95,Tryz.ntmps95;go_wp2;refine bodyPost_ret (v:= .tuple #[.agg #[.int .i64 x, .int .i64 0, .int .i64 0, .int .i64 0, .int .i64 (r*64), .int .i64 (r*64), .int .i64 63, .int .i64 0], .int .i64 0]) (by simp[results,Tryz.results95,go_sem]) rfl (FIN.out _ ?_)
   exact(Below.refl _ _).alloc (Nat.le_refl _) _
theorem Hza (r x:Int) (w:World):
  Calls Tryz.prog 101 #[.int .i64 r, .int .i64 x] w fun e w'=>e= .returned (entV r x)∧Below w.heap.size w w':=by
 cases hb:Dzx r x with
 | true=>
   have HB:=Lib.hid hb;have h:r<0∨15<r∨x<0∨65535<x:=by simpa [Dzx] using hb
   clear hb;have hv:Hid (entV r x= .tuple #[Mzb 0 0 0 0 0 0 0 0, .int .i64 2]):=by show _=_;simp[entV,HB.out]
   clear HB;have FIN:Hid (∀ w':World,Below w.heap.size w w'→(Ending.returned (.tuple #[.agg #[.int .i64 0, .int .i64 0, .int .i64 0, .int .i64 0, .int .i64 0, .int .i64 0, .int .i64 0, .int .i64 0], .int .i64 2])= .returned (entV r x)∧Below w.heap.size w w')):=fun w' h=>⟨by rw[hv.out];rfl,h⟩
   clear hv;by_cases h1:r<0
   ·clear h
    have i1:inB r 0 15=false:=Azp (by omega);go_enter Tryz.func101,Tryz.ntmps101;go_wp2_with (first|(go_at_call 21;refine(Azi _ _ _ _).mono ?_;rintro e w' ⟨rfl,rfl⟩)|(go_at_call 86;refine(Cz5 _ _).mono ?_;rintro e w' ⟨rfl,rfl⟩));refine bodyPost_ret (v:= .tuple #[.agg #[.int .i64 0, .int .i64 0, .int .i64 0, .int .i64 0, .int .i64 0, .int .i64 0, .int .i64 0, .int .i64 0], .int .i64 2]) (by simp[results,Tryz.results101,go_sem];try omega) rfl (FIN.out _ ?_)
    repeat (first|exact Below.refl _ _|refine Below.alloc ?_ (by first|omega|(simp;omega)|simp) _|refine Below.setCell ?_ (by first|omega|(simp;omega)|simp) _)
   ·skip
    by_cases h2:15<r
    ·clear h
     have i1:inB r 0 15=false:=Azp (by omega);go_enter Tryz.func101,Tryz.ntmps101;go_wp2_with (first|(go_at_call 21;refine(Azi _ _ _ _).mono ?_;rintro e w' ⟨rfl,rfl⟩)|(go_at_call 86;refine(Cz5 _ _).mono ?_;rintro e w' ⟨rfl,rfl⟩));refine bodyPost_ret (v:= .tuple #[.agg #[.int .i64 0, .int .i64 0, .int .i64 0, .int .i64 0, .int .i64 0, .int .i64 0, .int .i64 0, .int .i64 0], .int .i64 2]) (by simp[results,Tryz.results101,go_sem];try omega) rfl (FIN.out _ ?_)
     repeat (first|exact Below.refl _ _|refine Below.alloc ?_ (by first|omega|(simp;omega)|simp) _|refine Below.setCell ?_ (by first|omega|(simp;omega)|simp) _)
    ·skip
     by_cases h3:x<0
     ·clear h
      have i1:inB r 0 15=true:=Azl (by omega) (by omega);have i2:inB x 0 65535=false:=Azp (by omega);go_enter Tryz.func101,Tryz.ntmps101;go_wp2_with (first|(go_at_call 21;refine(Azi _ _ _ _).mono ?_;rintro e w' ⟨rfl,rfl⟩)|(go_at_call 86;refine(Cz5 _ _).mono ?_;rintro e w' ⟨rfl,rfl⟩));refine bodyPost_ret (v:= .tuple #[.agg #[.int .i64 0, .int .i64 0, .int .i64 0, .int .i64 0, .int .i64 0, .int .i64 0, .int .i64 0, .int .i64 0], .int .i64 2]) (by simp[results,Tryz.results101,go_sem];try omega) rfl (FIN.out _ ?_)
      repeat (first|exact Below.refl _ _|refine Below.alloc ?_ (by first|omega|(simp;omega)|simp) _|refine Below.setCell ?_ (by first|omega|(simp;omega)|simp) _)
     ·have h4:65535<x:=by omega
      clear h;have i1:inB r 0 15=true:=Azl (by omega) (by omega);have i2:inB x 0 65535=false:=Azp (by omega);go_enter Tryz.func101,Tryz.ntmps101;go_wp2_with (first|(go_at_call 21;refine(Azi _ _ _ _).mono ?_;rintro e w' ⟨rfl,rfl⟩)|(go_at_call 86;refine(Cz5 _ _).mono ?_;rintro e w' ⟨rfl,rfl⟩));refine bodyPost_ret (v:= .tuple #[.agg #[.int .i64 0, .int .i64 0, .int .i64 0, .int .i64 0, .int .i64 0, .int .i64 0, .int .i64 0, .int .i64 0], .int .i64 2]) (by simp[results,Tryz.results101,go_sem];try omega) rfl (FIN.out _ ?_)
      repeat (first|exact Below.refl _ _|refine Below.alloc ?_ (by first|omega|(simp;omega)|simp) _|refine Below.setCell ?_ (by first|omega|(simp;omega)|simp) _)
 | false=>
   have HB:=Lib.hid hb;have h:¬ (r<0∨15<r∨x<0∨65535<x):=by simpa [Dzx] using hb
   have h1:0≤r:=by omega
   have h2:r≤15:=by omega
   have h3:0≤x:=by omega
   have h4:x≤65535:=by omega
   clear hb h;have hv:Hid (entV r x= .tuple #[Mzb x 0 0 0 (r*64) (r*64) 63 0, .int .i64 0]):=by show _=_;simp[entV,HB.out]
   clear HB;have FIN:Hid (∀ w':World,Below w.heap.size w w'→(Ending.returned (.tuple #[.agg #[.int .i64 x, .int .i64 0, .int .i64 0, .int .i64 0, .int .i64 (r*64), .int .i64 (r*64), .int .i64 63, .int .i64 0], .int .i64 0])= .returned (entV r x)∧Below w.heap.size w w')):=fun w' h=>⟨by rw[hv.out];rfl,h⟩
   clear hv;have i1:inB r 0 15=true:=Azl (by omega) (by omega);have i2:inB x 0 65535=true:=Azl (by omega) (by omega);go_enter Tryz.func101,Tryz.ntmps101;go_wp2_with (first|(go_at_call 21;refine(Azi _ _ _ _).mono ?_;rintro e w' ⟨rfl,rfl⟩)|(go_at_call 86;refine(Cz5 _ _).mono ?_;rintro e w' ⟨rfl,rfl⟩));refine bodyPost_ret (v:= .tuple #[.agg #[.int .i64 x, .int .i64 0, .int .i64 0, .int .i64 0, .int .i64 (r*64), .int .i64 (r*64), .int .i64 63, .int .i64 0], .int .i64 0]) (by simp[results,Tryz.results101,go_sem];try omega) rfl (FIN.out _ ?_)
   repeat (first|exact Below.refl _ _|refine Below.alloc ?_ (by first|omega|(simp;omega)|simp) _|refine Below.setCell ?_ (by first|omega|(simp;omega)|simp) _)
end Go.Proofs.YtdjamdbamkhblacGreatDoor
