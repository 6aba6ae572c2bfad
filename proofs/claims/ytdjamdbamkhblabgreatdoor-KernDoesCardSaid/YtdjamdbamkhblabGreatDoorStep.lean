/- The walk of the machine's step: no condition. -/
import Derived.Test.YtdjamdbamkhblabGreatDoorG31
import Derived.Deep.RegionLaw
namespace Go.Proofs.YtdjamdbamkhblabGreatDoor
open Go.RowKit
set_option linter.unusedVariables false
set_option linter.unusedSimpArgs false
def StepPost (w0:World) (g:Nat) (C:Value) (l:List Ins) (s:Mc) (e:Ending) (w':World):Prop:=
 ∃ B T M,e= .returned (.int .i64 ((step l s).2:Nat))∧Mach w0 w' g C (step l s).1 0 B T M
theorem StepPost.mk' {w0 w':World} {g:Nat} {C:Value} {l:List Ins} {s:Mc} {e:Ending} {B T M:Value} {s':Mc} {n:Nat} {v:Int} (hs:step l s=(s',n)) (he:e= .returned (.int .i64 v)) (hv:v=(n:Int)) (h:Mach w0 w' g C s' 0 B T M):StepPost w0 g C l s e w':=by
 subst hv;exact⟨B,T,M,by rw[hs];exact he,by rw[hs];exact h⟩
theorem sinfo_int:(Tryz.prog.info? 3).map (fun i=>(i.zero,i.size,i.bytes))=some (some (.int .i64 0),1,8):=by kernel_rfl
set_option maxHeartbeats 4000000 in
theorem step_none (w0:World) (g c:Nat) (A:Option Addr) (l:List Ins) (s:Mc) (B T M:Value) (w:World) (h:Mach w0 w g (.slice A l.length c) s 0 B T M) (hp:l.length≤s.pos):
  Calls Tryz.prog 102 #[.pointer (some ⟨g,0,none⟩)] w (StepPost w0 g (.slice A l.length c) l s):=by
 obtain⟨e0,e1, -⟩:=h.blk.a2;simp[mcCells,natV] at e0 e1;have hg:=h.blk.lt;have H:=Lib.hid h;have HS:Hid (step l s=(s,3)):=by
  show _=_;unfold step;rw[List.getElem?_eq_none hp]
 clear h;go_enter Tryz.func102,Tryz.ntmps102;go_wp2;go_quiet (fail);go_wp2;go_ret;exact StepPost.mk' HS.out rfl rfl (H.out.later (Below.drewN' (Below.refl _ _) _))
def StStmt (P:Mc→Ins→Prop):Prop:=∀ (w0:World) (g c:Nat) (A:Option Addr) (l:List Ins) (s:Mc) (B T M:Value) (w:World) (hr:RdI w0 w0.heap.size A l) (hl:l.length≤200) (h:Mach w0 w g (.slice A l.length c) s 0 B T M) (hs:McOk s) (hml:s.mem.length≤1024)
  (hp:s.pos<l.length) (x:Ins) (hx:l[s.pos]=x) (hi:InsOk x) (ho:P s x),
  Calls Tryz.prog 102 #[.pointer (some ⟨g,0,none⟩)] w (StepPost w0 g (.slice A l.length c) l s)
theorem stOf {P:Mc→Ins→Prop} (K:∀ (w0 w:World) (g c b o:Nat) (l:List Ins) (s:Mc) (B T M:Value) (xo:Int) (an bn cn ps:Nat) (h:Mach w0 w g (.slice (some ⟨b,o,none⟩) l.length c) s 0 B T M) (hs:McOk s) (hml:s.mem.length≤1024) (hl:l.length≤200) (hbB:b<w0.heap.size) (HIN:Hid (l[s.pos]? =some ⟨xo,an,bn,cn⟩)) (HI:Hid (InsOk ⟨xo,an,bn,cn⟩)) (o1:1≤xo) (o2:xo≤15) (a0:(0:Int)≤(an:Int)) (a7:(an:Int)≤7) (b0:(0:Int)≤(bn:Int)) (b7:(bn:Int)≤7) (c0:(0:Int)≤(cn:Int)) (cw:(cn:Int)≤65535) (c7:2≤xo→xo≤7→(cn:Int)≤7) (e0:w.cell? ⟨g,0,none⟩=some (.slice (some ⟨b,o,none⟩) l.length c)) (e1:w.cell? ⟨g,1,none⟩=some (.int .i64 (ps:Int))) (f1:w.frozen? ⟨g,1,none⟩=false) (hg:g<w.heap.size) (hg1:g<w.heap.size+1) (hb0:w0.heap.size≤g) (hbg:b≠g) (hgb:g≠b) (hbw:b<w.heap.size) (hbw1:b<w.heap.size+1) (hwb:w.heap.size≠b) (hbw':b≠w.heap.size) (hwg:w.heap.size≠g) (hwg':g≠w.heap.size) (hr8:s.regs.length=8) (HMO:Hid (McOk s)) (HPS:Hid (s.pos=ps)) (d0:w.cell? ⟨b,o+ps*4,none⟩=some (.int .i64 xo)) (d1:w.cell? ⟨b,o+ps*4+1,none⟩=some (.int .i64 (an:Int))) (d2:w.cell? ⟨b,o+ps*4+2,none⟩=some (.int .i64 (bn:Int))) (d3:w.cell? ⟨b,o+ps*4+3,none⟩=some (.int .i64 (cn:Int))) (hp:ps<l.length) (ho:P s ⟨xo,(an:Int),(bn:Int),(cn:Int)⟩),
  Calls Tryz.prog 102 #[.pointer (some ⟨g,0,none⟩)] w (StepPost w0 g (.slice (some ⟨b,o,none⟩) l.length c) l s)):StStmt P:=by
 intro w0 g c A l s B T M w hr hl h hs hml hp x hx hi ho;obtain⟨b,o,rfl,hbB,hcell⟩:=hr (by omega);obtain⟨d0,d1,d2,d3⟩:=hcell s.pos hp;rw[←h.below.cell (p:=⟨b,_,none⟩) hbB,hx] at d0 d1 d2 d3;have hin:l[s.pos]? =some x:=by rw[List.getElem?_eq_getElem hp,hx]
 have hi2:=hi;obtain⟨o1,o2,a0,a7,b0,b7,c0,cw,c7⟩:=hi2;obtain⟨xo,xa,xb,xc⟩:=x;simp only at d0 d1 d2 d3 o1 o2 a0 a7 b0 b7 c0 cw c7;obtain⟨an,rfl⟩:∃ n:Nat,xa=(n:Int):=⟨xa.toNat,by omega⟩;obtain⟨bn,rfl⟩:∃ n:Nat,xb=(n:Int):=⟨xb.toNat,by omega⟩;obtain⟨cn,rfl⟩:∃ n:Nat,xc=(n:Int):=⟨xc.toNat,by omega⟩;have hg:=h.blk.lt;have hb0:=h.lo;exact K w0 w g c b o l s B T M xo an bn cn s.pos h hs hml hl hbB hin hi o1 o2 a0 a7 b0 b7 c0 cw c7 (h.blk.cell 0) (h.blk.cell 1) (h.blk.frozen 1) hg (by omega) hb0 (by omega) (by omega) (by omega) (by omega) (by omega) (by omega) (by omega) (by omega) hs.regs hs rfl d0 d1 d2 d3 hp ho
set_option maxRecDepth 100000 in
set_option maxHeartbeats 4000000 in
theorem step_jmp:StStmt fun s x=>x.op=10:=stOf fun w0 w g c b o l s B T M xo an bn cn ps h hs hml hl hbB HIN HI o1 o2 a0 a7 b0 b7 c0 cw c7 e0 e1 f1 hg hg1 hb0 hbg hgb hbw hbw1 hwb hbw' hwg hwg' hr8 HMO HPS d0 d1 d2 d3 hp ho=>by
 simp only at ho;subst ho;have HS:Hid (step l s=({ s with pos:=cn },0)):=by
  show _=_;unfold step;rw[HIN.out];rfl
 have H:=Lib.hid h;clear h hs;go_enter Tryz.func102,Tryz.ntmps102;go_wp2;go_quiet (fail);go_wp2;have H2:=Lib.hid (H.out.later (Below.drewN' (Below.refl _ _) nq));have k0:(w.drewN nq).cell? ⟨g,0,none⟩=some (.slice (some ⟨b,o,none⟩) l.length c):=e0;have k1:(w.drewN nq).cell? ⟨g,1,none⟩=some (.int .i64 (ps:Int)):=e1;have k2:(w.drewN nq).frozen? ⟨g,1,none⟩=false:=f1;have m0:(w.drewN nq).cell? ⟨b,o+ps*4,none⟩=some (.int .i64 10):=d0;have m1:(w.drewN nq).cell? ⟨b,o+ps*4+1,none⟩=some (.int .i64 (an:Int)):=d1;have m2:(w.drewN nq).cell? ⟨b,o+ps*4+2,none⟩=some (.int .i64 (bn:Int)):=d2;have m3:(w.drewN nq).cell? ⟨b,o+ps*4+3,none⟩=some (.int .i64 (cn:Int)):=d3;have hz:(w.drewN nq).heap.size=w.heap.size:=rfl;rw[←hz] at hg hbw hwb hbw' hwg hwg' hg1 hbw1;clear hz;clear e0 e1 f1 d0 d1 d2 d3;clear  H;generalize w.drewN nq=W at*;clear w;have HM:=Lib.hid ((H2.out.setpos (ps+1)).later (below_al _ (.cells #[.int .i64 10, .int .i64 (an:Int), .int .i64 (bn:Int), .int .i64 (cn:Int)] 98)));have HMO2:=Lib.hid (show McOk { s with pos:=ps+1 } from ⟨HMO.out.regs,HMO.out.rw,HMO.out.mw,HMO.out.back,HMO.out.told⟩);go_region_held3 (fun w'=>w'.cell? ⟨g,0,none⟩=some (.slice (some ⟨b,o,none⟩) l.length c)∧w'.cell? ⟨g,1,none⟩=some (.int .i64 (ps:Int))∧w'.cell? ⟨b,o+ps*4,none⟩=some (.int .i64 10)∧w'.cell? ⟨b,o+ps*4+1,none⟩=some (.int .i64 (an:Int))∧w'.cell? ⟨b,o+ps*4+2,none⟩=some (.int .i64 (bn:Int))∧w'.cell? ⟨b,o+ps*4+3,none⟩=some (.int .i64 (cn:Int)))
  (first|go_keep)
  (first|fail)
 go_wp2;go_ret;exact StepPost.mk' HS.out rfl rfl (((H2.out.setpos (ps+1)).setpos cn).later (Below.drewN' (below_al _ _) 1))
set_option maxRecDepth 100000 in
set_option maxHeartbeats 4000000 in
theorem step_jz0:StStmt fun s x=>x.op=11∧rg s x.a=0:=stOf fun w0 w g c b o l s B T M xo an bn cn ps h hs hml hl hbB HIN HI o1 o2 a0 a7 b0 b7 c0 cw c7 e0 e1 f1 hg hg1 hb0 hbg hgb hbw hbw1 hwb hbw' hwg hwg' hr8 HMO HPS d0 d1 d2 d3 hp ho=>by
 simp only at ho;obtain⟨ho,hy⟩:=ho;subst ho;have HS:Hid (step l s=({ s with pos:=cn },0)):=by
  show _=_;unfold step;rw[HIN.out];show (({ s with pos:=if rg s (an:Int)=0 then cn else s.pos+1 }:Mc),0)=_;rw[if_pos hy]
 have e4:=(h.blk.cell (4+an)).trans (mc_reg an (by omega));have hy':s.regs.getD an 0=0:=hy;unfold natV at e4;rw[hy'] at e4;clear hy hy';have H:=Lib.hid h;clear h hs;go_enter Tryz.func102,Tryz.ntmps102;go_wp2;go_quiet (fail);go_wp2;have H2:=Lib.hid (H.out.later (Below.drewN' (Below.refl _ _) nq));have k0:(w.drewN nq).cell? ⟨g,0,none⟩=some (.slice (some ⟨b,o,none⟩) l.length c):=e0;have k1:(w.drewN nq).cell? ⟨g,1,none⟩=some (.int .i64 (ps:Int)):=e1;have k2:(w.drewN nq).frozen? ⟨g,1,none⟩=false:=f1;have m0:(w.drewN nq).cell? ⟨b,o+ps*4,none⟩=some (.int .i64 11):=d0;have m1:(w.drewN nq).cell? ⟨b,o+ps*4+1,none⟩=some (.int .i64 (an:Int)):=d1;have m2:(w.drewN nq).cell? ⟨b,o+ps*4+2,none⟩=some (.int .i64 (bn:Int)):=d2;have m3:(w.drewN nq).cell? ⟨b,o+ps*4+3,none⟩=some (.int .i64 (cn:Int)):=d3;have k4:(w.drewN nq).cell? ⟨g,4+an,none⟩=some (.int .i64 ((0:Nat):Int)):=e4;have hz:(w.drewN nq).heap.size=w.heap.size:=rfl;rw[←hz] at hg hbw hwb hbw' hwg hwg' hg1 hbw1;clear hz;clear e0 e1 f1 d0 d1 d2 d3;clear e4 H;generalize w.drewN nq=W at*;clear w;have HM:=Lib.hid ((H2.out.setpos (ps+1)).later (below_al _ (.cells #[.int .i64 11, .int .i64 (an:Int), .int .i64 (bn:Int), .int .i64 (cn:Int)] 98)));have HMO2:=Lib.hid (show McOk { s with pos:=ps+1 } from ⟨HMO.out.regs,HMO.out.rw,HMO.out.mw,HMO.out.back,HMO.out.told⟩);go_region_held3 (fun w'=>w'.cell? ⟨g,0,none⟩=some (.slice (some ⟨b,o,none⟩) l.length c)∧w'.cell? ⟨g,1,none⟩=some (.int .i64 (ps:Int))∧w'.cell? ⟨b,o+ps*4,none⟩=some (.int .i64 11)∧w'.cell? ⟨b,o+ps*4+1,none⟩=some (.int .i64 (an:Int))∧w'.cell? ⟨b,o+ps*4+2,none⟩=some (.int .i64 (bn:Int))∧w'.cell? ⟨b,o+ps*4+3,none⟩=some (.int .i64 (cn:Int)))
  (first|go_keep)
  (first|fail)
 go_wp2;go_quiet (fail);go_wp2;go_ret;exact StepPost.mk' HS.out rfl rfl ((HM.out.later (Below.drewN' (Below.refl _ _) _)).setpos cn)
set_option maxRecDepth 100000 in
set_option maxHeartbeats 4000000 in
theorem step_jz1:StStmt fun s x=>x.op=11∧rg s x.a≠0:=stOf fun w0 w g c b o l s B T M xo an bn cn ps h hs hml hl hbB HIN HI o1 o2 a0 a7 b0 b7 c0 cw c7 e0 e1 f1 hg hg1 hb0 hbg hgb hbw hbw1 hwb hbw' hwg hwg' hr8 HMO HPS d0 d1 d2 d3 hp ho=>by
 simp only at ho;obtain⟨ho,hy⟩:=ho;subst ho;have HS:Hid (step l s=({ s with pos:=ps+1 },0)):=by
  show _=_;unfold step;rw[HIN.out];show (({ s with pos:=if rg s (an:Int)=0 then cn else s.pos+1 }:Mc),0)=_;rw[if_neg hy,HPS.out]
 have e4:=(h.blk.cell (4+an)).trans (mc_reg an (by omega));have hy':s.regs.getD an 0≠0:=hy;unfold natV at e4;obtain⟨y,hyy⟩:∃ y,s.regs.getD an 0=y:=⟨_,rfl⟩;rw[hyy] at e4 hy';have hy1:((y:Int) == 0)=false:=by rw[beq_eq_false_iff_ne];omega
 have hy2:¬ ((y:Int)=0):=by omega
 clear hy hy' hyy;have H:=Lib.hid h;clear h hs;go_enter Tryz.func102,Tryz.ntmps102;go_wp2;go_quiet (fail);go_wp2;have H2:=Lib.hid (H.out.later (Below.drewN' (Below.refl _ _) nq));have k0:(w.drewN nq).cell? ⟨g,0,none⟩=some (.slice (some ⟨b,o,none⟩) l.length c):=e0;have k1:(w.drewN nq).cell? ⟨g,1,none⟩=some (.int .i64 (ps:Int)):=e1;have k2:(w.drewN nq).frozen? ⟨g,1,none⟩=false:=f1;have m0:(w.drewN nq).cell? ⟨b,o+ps*4,none⟩=some (.int .i64 11):=d0;have m1:(w.drewN nq).cell? ⟨b,o+ps*4+1,none⟩=some (.int .i64 (an:Int)):=d1;have m2:(w.drewN nq).cell? ⟨b,o+ps*4+2,none⟩=some (.int .i64 (bn:Int)):=d2;have m3:(w.drewN nq).cell? ⟨b,o+ps*4+3,none⟩=some (.int .i64 (cn:Int)):=d3;have k4:(w.drewN nq).cell? ⟨g,4+an,none⟩=some (.int .i64 ((y:Nat):Int)):=e4;have hz:(w.drewN nq).heap.size=w.heap.size:=rfl;rw[←hz] at hg hbw hwb hbw' hwg hwg' hg1 hbw1;clear hz;clear e0 e1 f1 d0 d1 d2 d3;clear e4 H;generalize w.drewN nq=W at*;clear w;have HM:=Lib.hid ((H2.out.setpos (ps+1)).later (below_al _ (.cells #[.int .i64 11, .int .i64 (an:Int), .int .i64 (bn:Int), .int .i64 (cn:Int)] 98)));have HMO2:=Lib.hid (show McOk { s with pos:=ps+1 } from ⟨HMO.out.regs,HMO.out.rw,HMO.out.mw,HMO.out.back,HMO.out.told⟩);go_region_held3 (fun w'=>w'.cell? ⟨g,0,none⟩=some (.slice (some ⟨b,o,none⟩) l.length c)∧w'.cell? ⟨g,1,none⟩=some (.int .i64 (ps:Int))∧w'.cell? ⟨b,o+ps*4,none⟩=some (.int .i64 11)∧w'.cell? ⟨b,o+ps*4+1,none⟩=some (.int .i64 (an:Int))∧w'.cell? ⟨b,o+ps*4+2,none⟩=some (.int .i64 (bn:Int))∧w'.cell? ⟨b,o+ps*4+3,none⟩=some (.int .i64 (cn:Int)))
  (first|go_keep)
  (first|fail)
 go_wp2;go_quiet (fail);go_wp2;go_ret;exact StepPost.mk' HS.out rfl rfl (HM.out.later (Below.drewN' (Below.drewN' (Below.refl _ _) 1) _))
set_option maxRecDepth 100000 in
set_option maxHeartbeats 4000000 in
theorem step_halt:StStmt fun s x=>x.op=15:=stOf fun w0 w g c b o l s B T M xo an bn cn ps h hs hml hl hbB HIN HI o1 o2 a0 a7 b0 b7 c0 cw c7 e0 e1 f1 hg hg1 hb0 hbg hgb hbw hbw1 hwb hbw' hwg hwg' hr8 HMO HPS d0 d1 d2 d3 hp ho=>by
 simp only at ho;subst ho;have HS:Hid (step l s=({ s with pos:=ps+1 },1)):=by
  show _=_;unfold step;rw[HIN.out];rw[HPS.out];rfl
 have H:=Lib.hid h;clear h hs;go_enter Tryz.func102,Tryz.ntmps102;go_wp2;go_quiet (fail);go_wp2;have H2:=Lib.hid (H.out.later (Below.drewN' (Below.refl _ _) nq));have k0:(w.drewN nq).cell? ⟨g,0,none⟩=some (.slice (some ⟨b,o,none⟩) l.length c):=e0;have k1:(w.drewN nq).cell? ⟨g,1,none⟩=some (.int .i64 (ps:Int)):=e1;have k2:(w.drewN nq).frozen? ⟨g,1,none⟩=false:=f1;have m0:(w.drewN nq).cell? ⟨b,o+ps*4,none⟩=some (.int .i64 15):=d0;have m1:(w.drewN nq).cell? ⟨b,o+ps*4+1,none⟩=some (.int .i64 (an:Int)):=d1;have m2:(w.drewN nq).cell? ⟨b,o+ps*4+2,none⟩=some (.int .i64 (bn:Int)):=d2;have m3:(w.drewN nq).cell? ⟨b,o+ps*4+3,none⟩=some (.int .i64 (cn:Int)):=d3;have hz:(w.drewN nq).heap.size=w.heap.size:=rfl;rw[←hz] at hg hbw hwb hbw' hwg hwg' hg1 hbw1;clear hz;clear e0 e1 f1 d0 d1 d2 d3;clear  H;generalize w.drewN nq=W at*;clear w;have HM:=Lib.hid ((H2.out.setpos (ps+1)).later (below_al _ (.cells #[.int .i64 15, .int .i64 (an:Int), .int .i64 (bn:Int), .int .i64 (cn:Int)] 98)));have HMO2:=Lib.hid (show McOk { s with pos:=ps+1 } from ⟨HMO.out.regs,HMO.out.rw,HMO.out.mw,HMO.out.back,HMO.out.told⟩);go_region_held3 (fun w'=>w'.cell? ⟨g,0,none⟩=some (.slice (some ⟨b,o,none⟩) l.length c)∧w'.cell? ⟨g,1,none⟩=some (.int .i64 (ps:Int))∧w'.cell? ⟨b,o+ps*4,none⟩=some (.int .i64 15)∧w'.cell? ⟨b,o+ps*4+1,none⟩=some (.int .i64 (an:Int))∧w'.cell? ⟨b,o+ps*4+2,none⟩=some (.int .i64 (bn:Int))∧w'.cell? ⟨b,o+ps*4+3,none⟩=some (.int .i64 (cn:Int)))
  (first|go_keep)
  (first|fail)
 go_wp2;go_ret;exact StepPost.mk' HS.out rfl rfl ((H2.out.setpos (ps+1)).later (Below.drewN' (below_al _ _) 1))
set_option maxRecDepth 100000 in
set_option maxHeartbeats 4000000 in
theorem step_ld:StStmt fun s x=>x.op=8:=stOf fun w0 w g c b o l s B T M xo an bn cn ps h hs hml hl hbB HIN HI o1 o2 a0 a7 b0 b7 c0 cw c7 e0 e1 f1 hg hg1 hb0 hbg hgb hbw hbw1 hwb hbw' hwg hwg' hr8 HMO HPS d0 d1 d2 d3 hp ho=>by
 simp only at ho;subst ho;have HS:Hid (step l s=(touchMc { s with pos:=ps+1 } ⟨8,(an:Int),(bn:Int),(cn:Int)⟩,if rg s (bn:Int)<s.mem.length then 0 else 3)):=by
  show _=_;unfold step touchMc;rw[HIN.out,HPS.out];show (if rg s (bn:Int)<s.mem.length then _ else _)=(if rg s (bn:Int)<s.mem.length then _ else _,if rg s (bn:Int)<s.mem.length then _ else _);by_cases hh:rg s (bn:Int)<s.mem.length
  ·rw[if_pos hh,if_pos hh,if_pos hh]
   rfl
  ·rw[if_neg hh,if_neg hh,if_neg hh]
 have H:=Lib.hid h;clear h hs;go_enter Tryz.func102,Tryz.ntmps102;go_wp2;go_quiet (fail);go_wp2;have H2:=Lib.hid (H.out.later (Below.drewN' (Below.refl _ _) nq));have k0:(w.drewN nq).cell? ⟨g,0,none⟩=some (.slice (some ⟨b,o,none⟩) l.length c):=e0;have k1:(w.drewN nq).cell? ⟨g,1,none⟩=some (.int .i64 (ps:Int)):=e1;have k2:(w.drewN nq).frozen? ⟨g,1,none⟩=false:=f1;have m0:(w.drewN nq).cell? ⟨b,o+ps*4,none⟩=some (.int .i64 8):=d0;have m1:(w.drewN nq).cell? ⟨b,o+ps*4+1,none⟩=some (.int .i64 (an:Int)):=d1;have m2:(w.drewN nq).cell? ⟨b,o+ps*4+2,none⟩=some (.int .i64 (bn:Int)):=d2;have m3:(w.drewN nq).cell? ⟨b,o+ps*4+3,none⟩=some (.int .i64 (cn:Int)):=d3;have hz:(w.drewN nq).heap.size=w.heap.size:=rfl;rw[←hz] at hg hbw hwb hbw' hwg hwg' hg1 hbw1;clear hz;clear e0 e1 f1 d0 d1 d2 d3;clear  H;generalize w.drewN nq=W at*;clear w;have HM:=Lib.hid ((H2.out.setpos (ps+1)).later (below_al _ (.cells #[.int .i64 8, .int .i64 (an:Int), .int .i64 (bn:Int), .int .i64 (cn:Int)] 98)));have HMO2:=Lib.hid (show McOk { s with pos:=ps+1 } from ⟨HMO.out.regs,HMO.out.rw,HMO.out.mw,HMO.out.back,HMO.out.told⟩);go_region_held3 (fun w'=>w'.cell? ⟨g,0,none⟩=some (.slice (some ⟨b,o,none⟩) l.length c)∧w'.cell? ⟨g,1,none⟩=some (.int .i64 (ps:Int))∧w'.cell? ⟨b,o+ps*4,none⟩=some (.int .i64 8)∧w'.cell? ⟨b,o+ps*4+1,none⟩=some (.int .i64 (an:Int))∧w'.cell? ⟨b,o+ps*4+2,none⟩=some (.int .i64 (bn:Int))∧w'.cell? ⟨b,o+ps*4+3,none⟩=some (.int .i64 (cn:Int)))
  (first|go_keep)
  (first|fail)
 go_wp2_with (go_at_call 105;refine(touch_any w0 g 0 _ B T M { s with pos:=ps+1 } ⟨8,(an:Int),(bn:Int),(cn:Int)⟩ _ (HM.out.later (Below.drewN' (Below.refl _ _) 1)) HMO2.out HI.out (by simp) hml).mono ?_;rintro e w1 ⟨z,hz,rfl,hM1⟩);go_ret;refine StepPost.mk' HS.out rfl ?_ hM1;refine hz.out.trans ?_;show (if rg s (bn:Int)<s.mem.length then (0:Int) else 3)=((if rg s (bn:Int)<s.mem.length then (0:Nat) else 3:Nat):Int);split<;>rfl
set_option maxRecDepth 100000 in
set_option maxHeartbeats 4000000 in
theorem step_st:StStmt fun s x=>x.op=9:=stOf fun w0 w g c b o l s B T M xo an bn cn ps h hs hml hl hbB HIN HI o1 o2 a0 a7 b0 b7 c0 cw c7 e0 e1 f1 hg hg1 hb0 hbg hgb hbw hbw1 hwb hbw' hwg hwg' hr8 HMO HPS d0 d1 d2 d3 hp ho=>by
 simp only at ho;subst ho;have HS:Hid (step l s=(touchMc { s with pos:=ps+1 } ⟨9,(an:Int),(bn:Int),(cn:Int)⟩,if rg s (bn:Int)<s.mem.length then 0 else 3)):=by
  show _=_;unfold step touchMc;rw[HIN.out,HPS.out];show (if rg s (bn:Int)<s.mem.length then _ else _)=(if rg s (bn:Int)<s.mem.length then _ else _,if rg s (bn:Int)<s.mem.length then _ else _);by_cases hh:rg s (bn:Int)<s.mem.length
  ·rw[if_pos hh,if_pos hh,if_pos hh]
   rfl
  ·rw[if_neg hh,if_neg hh,if_neg hh]
 have H:=Lib.hid h;clear h hs;go_enter Tryz.func102,Tryz.ntmps102;go_wp2;go_quiet (fail);go_wp2;have H2:=Lib.hid (H.out.later (Below.drewN' (Below.refl _ _) nq));have k0:(w.drewN nq).cell? ⟨g,0,none⟩=some (.slice (some ⟨b,o,none⟩) l.length c):=e0;have k1:(w.drewN nq).cell? ⟨g,1,none⟩=some (.int .i64 (ps:Int)):=e1;have k2:(w.drewN nq).frozen? ⟨g,1,none⟩=false:=f1;have m0:(w.drewN nq).cell? ⟨b,o+ps*4,none⟩=some (.int .i64 9):=d0;have m1:(w.drewN nq).cell? ⟨b,o+ps*4+1,none⟩=some (.int .i64 (an:Int)):=d1;have m2:(w.drewN nq).cell? ⟨b,o+ps*4+2,none⟩=some (.int .i64 (bn:Int)):=d2;have m3:(w.drewN nq).cell? ⟨b,o+ps*4+3,none⟩=some (.int .i64 (cn:Int)):=d3;have hz:(w.drewN nq).heap.size=w.heap.size:=rfl;rw[←hz] at hg hbw hwb hbw' hwg hwg' hg1 hbw1;clear hz;clear e0 e1 f1 d0 d1 d2 d3;clear  H;generalize w.drewN nq=W at*;clear w;have HM:=Lib.hid ((H2.out.setpos (ps+1)).later (below_al _ (.cells #[.int .i64 9, .int .i64 (an:Int), .int .i64 (bn:Int), .int .i64 (cn:Int)] 98)));have HMO2:=Lib.hid (show McOk { s with pos:=ps+1 } from ⟨HMO.out.regs,HMO.out.rw,HMO.out.mw,HMO.out.back,HMO.out.told⟩);go_region_held3 (fun w'=>w'.cell? ⟨g,0,none⟩=some (.slice (some ⟨b,o,none⟩) l.length c)∧w'.cell? ⟨g,1,none⟩=some (.int .i64 (ps:Int))∧w'.cell? ⟨b,o+ps*4,none⟩=some (.int .i64 9)∧w'.cell? ⟨b,o+ps*4+1,none⟩=some (.int .i64 (an:Int))∧w'.cell? ⟨b,o+ps*4+2,none⟩=some (.int .i64 (bn:Int))∧w'.cell? ⟨b,o+ps*4+3,none⟩=some (.int .i64 (cn:Int)))
  (first|go_keep)
  (first|fail)
 go_wp2_with (go_at_call 105;refine(touch_any w0 g 0 _ B T M { s with pos:=ps+1 } ⟨9,(an:Int),(bn:Int),(cn:Int)⟩ _ (HM.out.later (Below.drewN' (Below.refl _ _) 1)) HMO2.out HI.out (by simp) hml).mono ?_;rintro e w1 ⟨z,hz,rfl,hM1⟩);go_ret;refine StepPost.mk' HS.out rfl ?_ hM1;refine hz.out.trans ?_;show (if rg s (bn:Int)<s.mem.length then (0:Int) else 3)=((if rg s (bn:Int)<s.mem.length then (0:Nat) else 3:Nat):Int);split<;>rfl
set_option maxRecDepth 100000 in
set_option maxHeartbeats 4000000 in
theorem step_rck:StStmt fun s x=>1≤x.op∧x.op≤7:=stOf fun w0 w g c b o l s B T M xo an bn cn ps h hs hml hl hbB HIN HI o1 o2 a0 a7 b0 b7 c0 cw c7 e0 e1 f1 hg hg1 hb0 hbg hgb hbw hbw1 hwb hbw' hwg hwg' hr8 HMO HPS d0 d1 d2 d3 hp ho=>by
 simp only at ho;have HS:Hid (step l s=({ s with pos:=ps+1,regs:=s.regs.set an (reck (rg s (bn:Int)) (rg s ((cn:Int) % 8)) xo.toNat cn) },0)):=by
  show _=_;unfold step;rw[HIN.out];simp only;rw[HPS.out,if_neg (by omega),if_neg (by omega),if_neg (by omega),if_neg (by omega),if_neg (by omega),if_neg (by omega),if_neg (by omega),if_neg (by omega)];rfl
 have n8:(xo == 8)=false:=by rw[beq_eq_false_iff_ne];omega
 have n9:(xo == 9)=false:=by rw[beq_eq_false_iff_ne];omega
 have n10:(xo == 10)=false:=by rw[beq_eq_false_iff_ne];omega
 have n11:(xo == 11)=false:=by rw[beq_eq_false_iff_ne];omega
 have n12:(xo == 12)=false:=by rw[beq_eq_false_iff_ne];omega
 have n13:(xo == 13)=false:=by rw[beq_eq_false_iff_ne];omega
 have n14:(xo == 14)=false:=by rw[beq_eq_false_iff_ne];omega
 have n15:(xo == 15)=false:=by rw[beq_eq_false_iff_ne];omega
 have HRX:Hid ((mcCells (.slice (some ⟨b,o,none⟩) l.length c) (ps+1) B 0 s.regs T M)[4+bn]? =some (natV (rg s (bn:Int)))):=mc_reg bn (by omega);have HRY:Hid ((mcCells (.slice (some ⟨b,o,none⟩) l.length c) (ps+1) B 0 s.regs T M)[4+((cn:Int) % 8).toNat]? =some (natV (rg s ((cn:Int) % 8)))):=mc_reg _ (by omega);have r1:=rg_le HMO.out (bn:Int);have r2:=rg_le HMO.out ((cn:Int) % 8);have han:(an:Int)<8:=by omega
 have H:=Lib.hid h;clear h hs;go_enter Tryz.func102,Tryz.ntmps102;go_wp2;go_quiet (fail);go_wp2;have H2:=Lib.hid (H.out.later (Below.drewN' (Below.refl _ _) nq));have k0:(w.drewN nq).cell? ⟨g,0,none⟩=some (.slice (some ⟨b,o,none⟩) l.length c):=e0;have k1:(w.drewN nq).cell? ⟨g,1,none⟩=some (.int .i64 (ps:Int)):=e1;have k2:(w.drewN nq).frozen? ⟨g,1,none⟩=false:=f1;have m0:(w.drewN nq).cell? ⟨b,o+ps*4,none⟩=some (.int .i64 xo):=d0;have m1:(w.drewN nq).cell? ⟨b,o+ps*4+1,none⟩=some (.int .i64 (an:Int)):=d1;have m2:(w.drewN nq).cell? ⟨b,o+ps*4+2,none⟩=some (.int .i64 (bn:Int)):=d2;have m3:(w.drewN nq).cell? ⟨b,o+ps*4+3,none⟩=some (.int .i64 (cn:Int)):=d3;have hz:(w.drewN nq).heap.size=w.heap.size:=rfl;rw[←hz] at hg hbw hwb hbw' hwg hwg' hg1 hbw1;clear hz;clear e0 e1 f1 d0 d1 d2 d3;clear  H;generalize w.drewN nq=W at*;clear w;have HM:=Lib.hid ((H2.out.setpos (ps+1)).later (below_al _ (.cells #[.int .i64 xo, .int .i64 (an:Int), .int .i64 (bn:Int), .int .i64 (cn:Int)] 98)));have HMO2:=Lib.hid (show McOk { s with pos:=ps+1 } from ⟨HMO.out.regs,HMO.out.rw,HMO.out.mw,HMO.out.back,HMO.out.told⟩);go_region_held3 (fun w'=>w'.cell? ⟨g,0,none⟩=some (.slice (some ⟨b,o,none⟩) l.length c)∧w'.cell? ⟨g,1,none⟩=some (.int .i64 (ps:Int))∧w'.cell? ⟨b,o+ps*4,none⟩=some (.int .i64 xo)∧w'.cell? ⟨b,o+ps*4+1,none⟩=some (.int .i64 (an:Int))∧w'.cell? ⟨b,o+ps*4+2,none⟩=some (.int .i64 (bn:Int))∧w'.cell? ⟨b,o+ps*4+3,none⟩=some (.int .i64 (cn:Int)))
  (first|go_keep)
  (first|fail)
 go_wp2;have HX:Hid (Mach w0 ((W.setCell ⟨g,1,none⟩ (.int .i64 ((ps:Int)+1))).alloc (.cells #[.int .i64 xo, .int .i64 (an:Int), .int .i64 (bn:Int), .int .i64 (cn:Int)] 98)) g (.slice (some ⟨b,o,none⟩) l.length c) { s with pos:=ps+1 } 0 B T M):=HM;have hj:Blk ((W.setCell ⟨g,1,none⟩ (.int .i64 ((ps:Int)+1))).alloc (.cells #[.int .i64 xo, .int .i64 (an:Int), .int .i64 (bn:Int), .int .i64 (cn:Int)] 98)) W.heap.size 98 #[.int .i64 xo, .int .i64 (an:Int), .int .i64 (bn:Int), .int .i64 (cn:Int)]:=Blk.new' (by simp);have hgx:g<((W.setCell ⟨g,1,none⟩ (.int .i64 ((ps:Int)+1))).alloc (.cells #[.int .i64 xo, .int .i64 (an:Int), .int .i64 (bn:Int), .int .i64 (cn:Int)] 98)).heap.size:=HX.out.blk.lt;have hjx:=hj.lt;obtain⟨gx,hgx1⟩:∃ gx,gx=W.heap.size:=⟨_,rfl⟩;rw[←hgx1] at hj hjx hwg hwg';have HJ:=Lib.hid hj;clear hj HM H2 k0 k1 k2 m0 m1 m2 m3 hbw hwb hbw' hg1 hbw1 hg;generalize (W.setCell ⟨g,1,none⟩ (.int .i64 ((ps:Int)+1))).alloc (.cells #[.int .i64 xo, .int .i64 (an:Int), .int .i64 (bn:Int), .int .i64 (cn:Int)] 98)=X at*;rw[←hgx1];clear hgx1;obtain⟨j0,j1,j2,j3, -⟩:=HJ.out.a4;simp at j0 j1 j2 j3;have k4:=HX.out.blk.frozen (4+an);have k5:=(HX.out.blk.cell (4+an)).trans (mc_reg an (by omega));obtain⟨u5,hu5⟩:∃ u,u=natV (s.regs.getD an 0):=⟨_,rfl⟩;rw[←hu5] at k5;clear hu5;obtain⟨rv,hrv⟩:∃ rv,rv=reck (rg s (bn:Int)) (rg s ((cn:Int) % 8)) xo.toNat cn:=⟨_,rfl⟩;have HRV:=Lib.hid hrv;clear hrv;go_region_held3 (fun w'=>w'.cell? ⟨gx,0,none⟩=some (.int .i64 xo)∧w'.cell? ⟨gx,1,none⟩=some (.int .i64 (an:Int))∧w'.cell? ⟨gx,2,none⟩=some (.int .i64 (bn:Int))∧w'.cell? ⟨gx,3,none⟩=some (.int .i64 (cn:Int)))
  (first|(refine⟨?_,?_,?_,?_⟩<;>first|assumption|exact(hb1.cell (p:=⟨gx,_,none⟩) hjx).trans (by assumption))|go_keep)
  (first|(go_at_call 106;refine(reckon_any g _ ⟨xo,(an:Int),(bn:Int),(cn:Int)⟩ _ _ _ (HX.out.later (Below.drewN' (Below.refl _ _) 2)).blk HI.out (by simp;omega) HRX.out HRY.out r1 r2).mono ?_;rintro e w1 ⟨rfl,hb1⟩;have hk5:=(hb1.cell (p:=⟨g,4+an,none⟩) hgx).trans k5;have hk4:=(hb1.frozen (p:=⟨g,4+an,none⟩) hgx).trans k4))
 go_wp2;go_ret;exact StepPost.mk' HS.out rfl rfl (((HX.out.later (Below.drewN' (Below.refl _ _) 2)).later hb1).setreg hr8 an (by omega) _)
set_option maxRecDepth 100000 in
set_option maxHeartbeats 4000000 in
theorem step_told5:StStmt fun s x=>x.op=14∧s.told.length=100:=stOf fun w0 w g c b o l s B T M xo an bn cn ps h hs hml hl hbB HIN HI o1 o2 a0 a7 b0 b7 c0 cw c7 e0 e1 f1 hg hg1 hb0 hbg hgb hbw hbw1 hwb hbw' hwg hwg' hr8 HMO HPS d0 d1 d2 d3 hp ho=>by
 simp only at ho;obtain⟨ho,ht⟩:=ho;subst ho;have HS:Hid (step l s=({ s with pos:=ps+1 },5)):=by
  show _=_;unfold step;rw[HIN.out];show (if s.told.length=100 then _ else _)=_;rw[if_pos ht,HPS.out]
 have ht3:((s.told.length:Int) == 100)=true:=by rw[beq_iff_eq];omega
 clear ht;obtain⟨AT,kT,hT⟩:=own_slice h.ot;subst hT;have e12:=h.blk.cell 12;simp[mcCells] at e12;have H:=Lib.hid h;clear h hs;go_enter Tryz.func102,Tryz.ntmps102;go_wp2;go_quiet (fail);go_wp2;have H2:=Lib.hid (H.out.later (Below.drewN' (Below.refl _ _) nq));have k0:(w.drewN nq).cell? ⟨g,0,none⟩=some (.slice (some ⟨b,o,none⟩) l.length c):=e0;have k1:(w.drewN nq).cell? ⟨g,1,none⟩=some (.int .i64 (ps:Int)):=e1;have k2:(w.drewN nq).frozen? ⟨g,1,none⟩=false:=f1;have m0:(w.drewN nq).cell? ⟨b,o+ps*4,none⟩=some (.int .i64 14):=d0;have m1:(w.drewN nq).cell? ⟨b,o+ps*4+1,none⟩=some (.int .i64 (an:Int)):=d1;have m2:(w.drewN nq).cell? ⟨b,o+ps*4+2,none⟩=some (.int .i64 (bn:Int)):=d2;have m3:(w.drewN nq).cell? ⟨b,o+ps*4+3,none⟩=some (.int .i64 (cn:Int)):=d3;have k12:(w.drewN nq).cell? ⟨g,12,none⟩=some (.slice AT s.told.length kT):=e12;have hz:(w.drewN nq).heap.size=w.heap.size:=rfl;rw[←hz] at hg hbw hwb hbw' hwg hwg' hg1 hbw1;clear hz;clear e0 e1 f1 d0 d1 d2 d3;clear e12 H;generalize w.drewN nq=W at*;clear w;have HM:=Lib.hid ((H2.out.setpos (ps+1)).later (below_al _ (.cells #[.int .i64 14, .int .i64 (an:Int), .int .i64 (bn:Int), .int .i64 (cn:Int)] 98)));have HMO2:=Lib.hid (show McOk { s with pos:=ps+1 } from ⟨HMO.out.regs,HMO.out.rw,HMO.out.mw,HMO.out.back,HMO.out.told⟩);go_region_held3 (fun w'=>w'.cell? ⟨g,0,none⟩=some (.slice (some ⟨b,o,none⟩) l.length c)∧w'.cell? ⟨g,1,none⟩=some (.int .i64 (ps:Int))∧w'.cell? ⟨b,o+ps*4,none⟩=some (.int .i64 14)∧w'.cell? ⟨b,o+ps*4+1,none⟩=some (.int .i64 (an:Int))∧w'.cell? ⟨b,o+ps*4+2,none⟩=some (.int .i64 (bn:Int))∧w'.cell? ⟨b,o+ps*4+3,none⟩=some (.int .i64 (cn:Int)))
  (first|go_keep)
  (first|fail)
 go_wp2;go_ret;exact StepPost.mk' HS.out rfl rfl (HM.out.later (Below.drewN' (Below.refl _ _) 1))
set_option maxRecDepth 100000 in
set_option maxHeartbeats 4000000 in
theorem step_told0:StStmt fun s x=>x.op=14∧s.told.length≠100:=stOf fun w0 w g c b o l s B T M xo an bn cn ps h hs hml hl hbB HIN HI o1 o2 a0 a7 b0 b7 c0 cw c7 e0 e1 f1 hg hg1 hb0 hbg hgb hbw hbw1 hwb hbw' hwg hwg' hr8 HMO HPS d0 d1 d2 d3 hp ho=>by
 simp only at ho;obtain⟨ho,ht⟩:=ho;subst ho;have HS:Hid (step l s=({ s with pos:=ps+1,told:=s.told++ [rg s (an:Int)] },0)):=by
  show _=_;unfold step;rw[HIN.out];show (if s.told.length=100 then _ else _)=_;rw[if_neg ht,HPS.out]
 have ht2:s.told.length<100:=by have:=HMO.out.told;omega
 have ht3:((s.told.length:Int) == 100)=false:=by rw[beq_eq_false_iff_ne];omega
 clear ht;have han:(an:Int)<8:=by omega
 have hU:=Tryz.underlying23;obtain⟨i0,hi0,hz0,hz1,hz2⟩:=info_parts sinfo_int;obtain⟨AT,kT,hT⟩:=own_slice h.ot;subst hT;have e12:=h.blk.cell 12;simp[mcCells] at e12;have H:=Lib.hid h;clear h hs;go_enter Tryz.func102,Tryz.ntmps102;go_wp2;go_quiet (fail);go_wp2;have H2:=Lib.hid (H.out.later (Below.drewN' (Below.refl _ _) nq));have k0:(w.drewN nq).cell? ⟨g,0,none⟩=some (.slice (some ⟨b,o,none⟩) l.length c):=e0;have k1:(w.drewN nq).cell? ⟨g,1,none⟩=some (.int .i64 (ps:Int)):=e1;have k2:(w.drewN nq).frozen? ⟨g,1,none⟩=false:=f1;have m0:(w.drewN nq).cell? ⟨b,o+ps*4,none⟩=some (.int .i64 14):=d0;have m1:(w.drewN nq).cell? ⟨b,o+ps*4+1,none⟩=some (.int .i64 (an:Int)):=d1;have m2:(w.drewN nq).cell? ⟨b,o+ps*4+2,none⟩=some (.int .i64 (bn:Int)):=d2;have m3:(w.drewN nq).cell? ⟨b,o+ps*4+3,none⟩=some (.int .i64 (cn:Int)):=d3;have k12:(w.drewN nq).cell? ⟨g,12,none⟩=some (.slice AT s.told.length kT):=e12;have hz:(w.drewN nq).heap.size=w.heap.size:=rfl;rw[←hz] at hg hbw hwb hbw' hwg hwg' hg1 hbw1;clear hz;clear e0 e1 f1 d0 d1 d2 d3;clear e12 H;generalize w.drewN nq=W at*;clear w;have HM:=Lib.hid ((H2.out.setpos (ps+1)).later (below_al _ (.cells #[.int .i64 14, .int .i64 (an:Int), .int .i64 (bn:Int), .int .i64 (cn:Int)] 98)));have HMO2:=Lib.hid (show McOk { s with pos:=ps+1 } from ⟨HMO.out.regs,HMO.out.rw,HMO.out.mw,HMO.out.back,HMO.out.told⟩);go_region_held3 (fun w'=>w'.cell? ⟨g,0,none⟩=some (.slice (some ⟨b,o,none⟩) l.length c)∧w'.cell? ⟨g,1,none⟩=some (.int .i64 (ps:Int))∧w'.cell? ⟨b,o+ps*4,none⟩=some (.int .i64 14)∧w'.cell? ⟨b,o+ps*4+1,none⟩=some (.int .i64 (an:Int))∧w'.cell? ⟨b,o+ps*4+2,none⟩=some (.int .i64 (bn:Int))∧w'.cell? ⟨b,o+ps*4+3,none⟩=some (.int .i64 (cn:Int)))
  (first|go_keep)
  (first|fail)
 go_wp2;have HX:Hid (Mach w0 ((W.setCell ⟨g,1,none⟩ (.int .i64 ((ps:Int)+1))).alloc (.cells #[.int .i64 14, .int .i64 (an:Int), .int .i64 (bn:Int), .int .i64 (cn:Int)] 98)) g (.slice (some ⟨b,o,none⟩) l.length c) { s with pos:=ps+1 } 0 B (.slice AT s.told.length kT) M):=HM;have hj:Blk ((W.setCell ⟨g,1,none⟩ (.int .i64 ((ps:Int)+1))).alloc (.cells #[.int .i64 14, .int .i64 (an:Int), .int .i64 (bn:Int), .int .i64 (cn:Int)] 98)) W.heap.size 98 #[.int .i64 14, .int .i64 (an:Int), .int .i64 (bn:Int), .int .i64 (cn:Int)]:=Blk.new' (by simp);have hgx:g<((W.setCell ⟨g,1,none⟩ (.int .i64 ((ps:Int)+1))).alloc (.cells #[.int .i64 14, .int .i64 (an:Int), .int .i64 (bn:Int), .int .i64 (cn:Int)] 98)).heap.size:=HX.out.blk.lt;have hjx:=hj.lt;obtain⟨gx,hgx1⟩:∃ gx,gx=W.heap.size:=⟨_,rfl⟩;rw[←hgx1] at hj hjx hwg hwg';have HJ:=Lib.hid hj;clear k12 hj HM H2 k0 k1 k2 m0 m1 m2 m3 hbw hwb hbw' hg1 hbw1 hg;generalize (W.setCell ⟨g,1,none⟩ (.int .i64 ((ps:Int)+1))).alloc (.cells #[.int .i64 14, .int .i64 (an:Int), .int .i64 (bn:Int), .int .i64 (cn:Int)] 98)=X at*;rw[←hgx1];clear hgx1;have k12:=HX.out.blk.cell 12;simp[mcCells] at k12;have k12f:=HX.out.blk.frozen 12;have j1:=HJ.out.cell 1;simp at j1;obtain⟨y,hy⟩:∃ y,rg s (an:Int)=y:=⟨_,rfl⟩;have hmr:(mcCells (.slice (some ⟨b,o,none⟩) l.length c) (ps+1) B 0 s.regs (.slice AT s.told.length kT) M)[4+an]? =some (.int .i64 (y:Int)):=by rw[←hy];exact mc_reg an (by omega)
 have k5:=(HX.out.blk.cell (4+an)).trans hmr;have HMR:=Lib.hid hmr;have HY:=Lib.hid hy;clear hy hmr;have hgx2:g<X.heap.size+1:=by omega
 have hjx2:gx<X.heap.size+1:=by omega
 go_region_law
  (first
    | (refine step_append_lies _ (by rfl) _ _ _ (by rfl) w0.heap.size 3 i0 _ 1 8 hU hi0 hz0 hz1 hz2 rfl (by omega) (.slice AT s.told.length kT) s.told.length (natsV s.told) (by rfl) ?own ⟨X.heap.size,0,none⟩ 1 1 [natV y] (by rfl) (by rfl) ?new ?one (by omega) ?len ?byt ?bas (X.heap.size+1) ?siz ?_
       case own=>exact HX.out.ot.alloc _
       case new=>exact World.news_of_block (fr:=(0,0)) (B:=X.heap.size) (t:=3) (cs:= #[natV y]) (Blk.drew (Blk.drew (Blk.new X 3 #[natV y])))
       case one=>(intro u hu;simp[natV] at hu;rcases hu with rfl|rfl<;>rfl)
       case len=>(simp[maxLen];omega)
       case byt=>omega
       case bas=>(have:=HX.out.below.size;simp;omega)
       case siz=>simp
       intro gq cap w1 hown1 hgrow hat hlt1;have kb:=(HX.out.blk.alloc (.cells #[natV y] 3)).drew.drew.grown hgrow (fun e=>own_blk_ne HX.out.ot HX.out.blk (by decide) e.symm);have kj:=(HJ.out.alloc (.cells #[natV y] 3)).drew.drew.grown hgrow (fun e=>own_blk_ne HX.out.ot HJ.out (by decide) e.symm);have g1:=kj.cell 1;have g2:=(kb.cell (4+an)).trans HMR.out;have g3:=kb.cell 12;have g4:=kb.frozen 12;simp at g1;simp[mcCells] at g3))
 all_goals
  go_wp2;go_ret;exact StepPost.mk' (HS.out.trans (by rw[HY.out])) rfl rfl (HX.out.pushtold (Below.drewN' (Below.drewN' (below_al _ _) 1) 1) hown1 rfl hgrow (hat.imp_right (fun e=>by simp;exact e)))
set_option maxRecDepth 100000 in
set_option maxHeartbeats 4000000 in
theorem step_call4:StStmt fun s x=>x.op=12∧s.back.length=16:=stOf fun w0 w g c b o l s B T M xo an bn cn ps h hs hml hl hbB HIN HI o1 o2 a0 a7 b0 b7 c0 cw c7 e0 e1 f1 hg hg1 hb0 hbg hgb hbw hbw1 hwb hbw' hwg hwg' hr8 HMO HPS d0 d1 d2 d3 hp ho=>by
 simp only at ho;obtain⟨ho,ht⟩:=ho;subst ho;have HS:Hid (step l s=({ s with pos:=ps+1 },4)):=by
  show _=_;unfold step;rw[HIN.out];show (if s.back.length=16 then _ else _)=_;rw[if_pos ht,HPS.out]
 have ht3:((s.back.length:Int) == 16)=true:=by rw[beq_iff_eq];omega
 clear ht;obtain⟨AB,kB,hBB⟩:=own_slice h.ob;subst hBB;have e2:=h.blk.cell 2;simp[mcCells] at e2;have H:=Lib.hid h;clear h hs;go_enter Tryz.func102,Tryz.ntmps102;go_wp2;go_quiet (fail);go_wp2;have H2:=Lib.hid (H.out.later (Below.drewN' (Below.refl _ _) nq));have k0:(w.drewN nq).cell? ⟨g,0,none⟩=some (.slice (some ⟨b,o,none⟩) l.length c):=e0;have k1:(w.drewN nq).cell? ⟨g,1,none⟩=some (.int .i64 (ps:Int)):=e1;have k2:(w.drewN nq).frozen? ⟨g,1,none⟩=false:=f1;have m0:(w.drewN nq).cell? ⟨b,o+ps*4,none⟩=some (.int .i64 12):=d0;have m1:(w.drewN nq).cell? ⟨b,o+ps*4+1,none⟩=some (.int .i64 (an:Int)):=d1;have m2:(w.drewN nq).cell? ⟨b,o+ps*4+2,none⟩=some (.int .i64 (bn:Int)):=d2;have m3:(w.drewN nq).cell? ⟨b,o+ps*4+3,none⟩=some (.int .i64 (cn:Int)):=d3;have k2b:(w.drewN nq).cell? ⟨g,2,none⟩=some (.slice AB s.back.length kB):=e2;have hz:(w.drewN nq).heap.size=w.heap.size:=rfl;rw[←hz] at hg hbw hwb hbw' hwg hwg' hg1 hbw1;clear hz;clear e0 e1 f1 d0 d1 d2 d3;clear e2 H;generalize w.drewN nq=W at*;clear w;have HM:=Lib.hid ((H2.out.setpos (ps+1)).later (below_al _ (.cells #[.int .i64 12, .int .i64 (an:Int), .int .i64 (bn:Int), .int .i64 (cn:Int)] 98)));have HMO2:=Lib.hid (show McOk { s with pos:=ps+1 } from ⟨HMO.out.regs,HMO.out.rw,HMO.out.mw,HMO.out.back,HMO.out.told⟩);go_region_held3 (fun w'=>w'.cell? ⟨g,0,none⟩=some (.slice (some ⟨b,o,none⟩) l.length c)∧w'.cell? ⟨g,1,none⟩=some (.int .i64 (ps:Int))∧w'.cell? ⟨b,o+ps*4,none⟩=some (.int .i64 12)∧w'.cell? ⟨b,o+ps*4+1,none⟩=some (.int .i64 (an:Int))∧w'.cell? ⟨b,o+ps*4+2,none⟩=some (.int .i64 (bn:Int))∧w'.cell? ⟨b,o+ps*4+3,none⟩=some (.int .i64 (cn:Int)))
  (first|go_keep)
  (first|fail)
 go_wp2;go_ret;exact StepPost.mk' HS.out rfl rfl (HM.out.later (Below.drewN' (Below.refl _ _) 1))
set_option maxRecDepth 100000 in
set_option maxHeartbeats 4000000 in
theorem step_call0:StStmt fun s x=>x.op=12∧s.back.length≠16:=stOf fun w0 w g c b o l s B T M xo an bn cn ps h hs hml hl hbB HIN HI o1 o2 a0 a7 b0 b7 c0 cw c7 e0 e1 f1 hg hg1 hb0 hbg hgb hbw hbw1 hwb hbw' hwg hwg' hr8 HMO HPS d0 d1 d2 d3 hp ho=>by
 simp only at ho;obtain⟨ho,ht⟩:=ho;subst ho;have HS:Hid (step l s=({ s with pos:=cn,back:=s.back++ [ps+1] },0)):=by
  show _=_;unfold step;rw[HIN.out];show (if s.back.length=16 then _ else _)=_;rw[if_neg ht,HPS.out];rfl
 have ht2:s.back.length<16:=by have:=HMO.out.back;omega
 have ht3:((s.back.length:Int) == 16)=false:=by rw[beq_eq_false_iff_ne];omega
 clear ht;have hU:=Tryz.underlying23;obtain⟨i0,hi0,hz0,hz1,hz2⟩:=info_parts sinfo_int;obtain⟨AB,kB,hBB⟩:=own_slice h.ob;subst hBB;have e2:=h.blk.cell 2;simp[mcCells] at e2;have H:=Lib.hid h;clear h hs;go_enter Tryz.func102,Tryz.ntmps102;go_wp2;go_quiet (fail);go_wp2;have H2:=Lib.hid (H.out.later (Below.drewN' (Below.refl _ _) nq));have k0:(w.drewN nq).cell? ⟨g,0,none⟩=some (.slice (some ⟨b,o,none⟩) l.length c):=e0;have k1:(w.drewN nq).cell? ⟨g,1,none⟩=some (.int .i64 (ps:Int)):=e1;have k2:(w.drewN nq).frozen? ⟨g,1,none⟩=false:=f1;have m0:(w.drewN nq).cell? ⟨b,o+ps*4,none⟩=some (.int .i64 12):=d0;have m1:(w.drewN nq).cell? ⟨b,o+ps*4+1,none⟩=some (.int .i64 (an:Int)):=d1;have m2:(w.drewN nq).cell? ⟨b,o+ps*4+2,none⟩=some (.int .i64 (bn:Int)):=d2;have m3:(w.drewN nq).cell? ⟨b,o+ps*4+3,none⟩=some (.int .i64 (cn:Int)):=d3;have k2b:(w.drewN nq).cell? ⟨g,2,none⟩=some (.slice AB s.back.length kB):=e2;have hz:(w.drewN nq).heap.size=w.heap.size:=rfl;rw[←hz] at hg hbw hwb hbw' hwg hwg' hg1 hbw1;clear hz;clear e0 e1 f1 d0 d1 d2 d3;clear e2 H;generalize w.drewN nq=W at*;clear w;have HM:=Lib.hid ((H2.out.setpos (ps+1)).later (below_al _ (.cells #[.int .i64 12, .int .i64 (an:Int), .int .i64 (bn:Int), .int .i64 (cn:Int)] 98)));have HMO2:=Lib.hid (show McOk { s with pos:=ps+1 } from ⟨HMO.out.regs,HMO.out.rw,HMO.out.mw,HMO.out.back,HMO.out.told⟩);go_region_held3 (fun w'=>w'.cell? ⟨g,0,none⟩=some (.slice (some ⟨b,o,none⟩) l.length c)∧w'.cell? ⟨g,1,none⟩=some (.int .i64 (ps:Int))∧w'.cell? ⟨b,o+ps*4,none⟩=some (.int .i64 12)∧w'.cell? ⟨b,o+ps*4+1,none⟩=some (.int .i64 (an:Int))∧w'.cell? ⟨b,o+ps*4+2,none⟩=some (.int .i64 (bn:Int))∧w'.cell? ⟨b,o+ps*4+3,none⟩=some (.int .i64 (cn:Int)))
  (first|go_keep)
  (first|fail)
 go_wp2;have HX:Hid (Mach w0 ((W.setCell ⟨g,1,none⟩ (.int .i64 ((ps:Int)+1))).alloc (.cells #[.int .i64 12, .int .i64 (an:Int), .int .i64 (bn:Int), .int .i64 (cn:Int)] 98)) g (.slice (some ⟨b,o,none⟩) l.length c) { s with pos:=ps+1 } 0 (.slice AB s.back.length kB) T M):=HM;have hj:Blk ((W.setCell ⟨g,1,none⟩ (.int .i64 ((ps:Int)+1))).alloc (.cells #[.int .i64 12, .int .i64 (an:Int), .int .i64 (bn:Int), .int .i64 (cn:Int)] 98)) W.heap.size 98 #[.int .i64 12, .int .i64 (an:Int), .int .i64 (bn:Int), .int .i64 (cn:Int)]:=Blk.new' (by simp);have hgx:g<((W.setCell ⟨g,1,none⟩ (.int .i64 ((ps:Int)+1))).alloc (.cells #[.int .i64 12, .int .i64 (an:Int), .int .i64 (bn:Int), .int .i64 (cn:Int)] 98)).heap.size:=HX.out.blk.lt;have hjx:=hj.lt;obtain⟨gx,hgx1⟩:∃ gx,gx=W.heap.size:=⟨_,rfl⟩;rw[←hgx1] at hj hjx hwg hwg';have HJ:=Lib.hid hj;clear k2b hj HM H2 k0 k1 k2 m0 m1 m2 m3 hbw hwb hbw' hg1 hbw1 hg;generalize (W.setCell ⟨g,1,none⟩ (.int .i64 ((ps:Int)+1))).alloc (.cells #[.int .i64 12, .int .i64 (an:Int), .int .i64 (bn:Int), .int .i64 (cn:Int)] 98)=X at*;rw[←hgx1];clear hgx1;have k2b:=HX.out.blk.cell 2;simp[mcCells] at k2b;obtain⟨pp,hpp⟩:∃ pp,pp=ps+1:=⟨_,rfl⟩;have k1:X.cell? ⟨g,1,none⟩=some (.int .i64 (pp:Int)):=by rw[hpp];exact HX.out.blk.cell 1
 have HPP:=Lib.hid hpp;clear hpp;have j3:=HJ.out.cell 3;simp at j3;have hgx2:g<X.heap.size+1:=by omega
 have hjx2:gx<X.heap.size+1:=by omega
 go_region_law
  (first
    | (refine step_append_lies _ (by rfl) _ _ _ (by rfl) w0.heap.size 3 i0 _ 1 8 hU hi0 hz0 hz1 hz2 rfl (by omega) (.slice AB s.back.length kB) s.back.length (natsV s.back) (by rfl) ?own ⟨X.heap.size,0,none⟩ 1 1 [natV pp] (by rfl) (by rfl) ?new ?one (by omega) ?len ?byt ?bas (X.heap.size+1) ?siz ?_
       case own=>exact HX.out.ob.alloc _
       case new=>exact World.news_of_block (fr:=(0,0)) (B:=X.heap.size) (t:=3) (cs:= #[natV pp]) (Blk.drew (Blk.drew (Blk.new X 3 #[natV pp])))
       case one=>(intro u hu;simp[natV] at hu;rcases hu with rfl|rfl<;>rfl)
       case len=>(simp[maxLen];omega)
       case byt=>omega
       case bas=>(have:=HX.out.below.size;simp;omega)
       case siz=>simp
       intro gq cap w1 hown1 hgrow hat hlt1;have kb:=(HX.out.blk.alloc (.cells #[natV pp] 3)).drew.drew.grown hgrow (fun e=>own_blk_ne HX.out.ob HX.out.blk (by decide) e.symm);have kj:=(HJ.out.alloc (.cells #[natV pp] 3)).drew.drew.grown hgrow (fun e=>own_blk_ne HX.out.ob HJ.out (by decide) e.symm);have g1:=kj.cell 3;obtain⟨-, -,g3, -, -,g4, -⟩:=kb.a3;have g5:∃ u,w1.cell? ⟨g,1,none⟩=some u:=⟨_,kb.cell 1⟩;obtain⟨u5,g5⟩:=g5;have g6:=kb.frozen 1;simp at g1;simp[mcCells] at g3))
 all_goals
  go_wp2;go_ret;exact StepPost.mk' (HS.out.trans (by rw[←HPP.out])) rfl rfl ((HX.out.pushback (Below.drewN' (Below.drewN' (below_al _ _) 1) 1) hown1 rfl hgrow (hat.imp_right (fun e=>by simp;exact e))).setpos cn)
set_option maxRecDepth 100000 in
set_option maxHeartbeats 4000000 in
theorem step_ret1:StStmt fun s x=>x.op=13∧s.back.length=0:=stOf fun w0 w g c b o l s B T M xo an bn cn ps h hs hml hl hbB HIN HI o1 o2 a0 a7 b0 b7 c0 cw c7 e0 e1 f1 hg hg1 hb0 hbg hgb hbw hbw1 hwb hbw' hwg hwg' hr8 HMO HPS d0 d1 d2 d3 hp ho=>by
 simp only at ho;obtain⟨ho,ht⟩:=ho;subst ho;have HS:Hid (step l s=({ s with pos:=ps+1 },1)):=by
  show _=_;unfold step;rw[HIN.out];show (if s.back.length=0 then _ else _)=_;rw[if_pos ht,HPS.out]
 have ht3:(s.back.length:Int) - 1<0:=by omega
 have ht4:(s.back.length:Int)≤16:=by omega
 clear ht;obtain⟨AB,kB,hBB⟩:=own_slice h.ob;subst hBB;have e2:=h.blk.cell 2;simp[mcCells] at e2;have H:=Lib.hid h;clear h hs;go_enter Tryz.func102,Tryz.ntmps102;go_wp2;go_quiet (fail);go_wp2;have H2:=Lib.hid (H.out.later (Below.drewN' (Below.refl _ _) nq));have k0:(w.drewN nq).cell? ⟨g,0,none⟩=some (.slice (some ⟨b,o,none⟩) l.length c):=e0;have k1:(w.drewN nq).cell? ⟨g,1,none⟩=some (.int .i64 (ps:Int)):=e1;have k2:(w.drewN nq).frozen? ⟨g,1,none⟩=false:=f1;have m0:(w.drewN nq).cell? ⟨b,o+ps*4,none⟩=some (.int .i64 13):=d0;have m1:(w.drewN nq).cell? ⟨b,o+ps*4+1,none⟩=some (.int .i64 (an:Int)):=d1;have m2:(w.drewN nq).cell? ⟨b,o+ps*4+2,none⟩=some (.int .i64 (bn:Int)):=d2;have m3:(w.drewN nq).cell? ⟨b,o+ps*4+3,none⟩=some (.int .i64 (cn:Int)):=d3;have k2b:(w.drewN nq).cell? ⟨g,2,none⟩=some (.slice AB s.back.length kB):=e2;have hz:(w.drewN nq).heap.size=w.heap.size:=rfl;rw[←hz] at hg hbw hwb hbw' hwg hwg' hg1 hbw1;clear hz;clear e0 e1 f1 d0 d1 d2 d3;clear e2 H;generalize w.drewN nq=W at*;clear w;have HM:=Lib.hid ((H2.out.setpos (ps+1)).later (below_al _ (.cells #[.int .i64 13, .int .i64 (an:Int), .int .i64 (bn:Int), .int .i64 (cn:Int)] 98)));have HMO2:=Lib.hid (show McOk { s with pos:=ps+1 } from ⟨HMO.out.regs,HMO.out.rw,HMO.out.mw,HMO.out.back,HMO.out.told⟩);go_region_held3 (fun w'=>w'.cell? ⟨g,0,none⟩=some (.slice (some ⟨b,o,none⟩) l.length c)∧w'.cell? ⟨g,1,none⟩=some (.int .i64 (ps:Int))∧w'.cell? ⟨b,o+ps*4,none⟩=some (.int .i64 13)∧w'.cell? ⟨b,o+ps*4+1,none⟩=some (.int .i64 (an:Int))∧w'.cell? ⟨b,o+ps*4+2,none⟩=some (.int .i64 (bn:Int))∧w'.cell? ⟨b,o+ps*4+3,none⟩=some (.int .i64 (cn:Int)))
  (first|go_keep)
  (first|fail)
 go_wp2;go_ret;exact StepPost.mk' HS.out rfl rfl (HM.out.later (Below.drewN' (Below.refl _ _) 1))
set_option maxRecDepth 100000 in
set_option maxHeartbeats 4000000 in
theorem step_ret0:StStmt fun s x=>x.op=13∧s.back.length≠0:=stOf fun w0 w g c b o l s B T M xo an bn cn ps h hs hml hl hbB HIN HI o1 o2 a0 a7 b0 b7 c0 cw c7 e0 e1 f1 hg hg1 hb0 hbg hgb hbw hbw1 hwb hbw' hwg hwg' hr8 HMO HPS d0 d1 d2 d3 hp ho=>by
 simp only at ho;obtain⟨ho,ht⟩:=ho;subst ho;obtain⟨nk,hnk⟩:∃ nk,s.back.length=nk+1:=⟨s.back.length - 1,by omega⟩;have HS:Hid (step l s=({ s with pos:=s.back.getD nk 0,back:=s.back.take nk },0)):=by
  show _=_;unfold step;rw[HIN.out];show (if s.back.length=0 then _ else _)=_;rw[if_neg ht,show s.back.length - 1=nk by omega]
 have hn16:(nk:Int)≤16:=by have:=HMO.out.back;omega
 clear ht;obtain⟨q,kB,hBB,hq1,hq2⟩:=h.ob.form (by omega);subst hBB;have hqg:q≠g:=fun e=>own_blk_ne h.ob h.blk (by decide) (by rw[←e];rfl)
 have e2:=h.blk.cell 2;simp[mcCells] at e2;rw[hnk] at e2;obtain⟨v,hv⟩:∃ v,s.back.getD nk 0=v:=⟨_,rfl⟩;have HV:=Lib.hid hv;clear hv;have HNK:=Lib.hid hnk;clear hnk;have H:=Lib.hid h;clear h hs;go_enter Tryz.func102,Tryz.ntmps102;go_wp2;go_quiet (fail);go_wp2;have H2:=Lib.hid (H.out.later (Below.drewN' (Below.refl _ _) nq));have k0:(w.drewN nq).cell? ⟨g,0,none⟩=some (.slice (some ⟨b,o,none⟩) l.length c):=e0;have k1:(w.drewN nq).cell? ⟨g,1,none⟩=some (.int .i64 (ps:Int)):=e1;have k2:(w.drewN nq).frozen? ⟨g,1,none⟩=false:=f1;have m0:(w.drewN nq).cell? ⟨b,o+ps*4,none⟩=some (.int .i64 13):=d0;have m1:(w.drewN nq).cell? ⟨b,o+ps*4+1,none⟩=some (.int .i64 (an:Int)):=d1;have m2:(w.drewN nq).cell? ⟨b,o+ps*4+2,none⟩=some (.int .i64 (bn:Int)):=d2;have m3:(w.drewN nq).cell? ⟨b,o+ps*4+3,none⟩=some (.int .i64 (cn:Int)):=d3;have k2b:(w.drewN nq).cell? ⟨g,2,none⟩=some (.slice (some ⟨q,0,none⟩) (nk+1) kB):=e2;have hz:(w.drewN nq).heap.size=w.heap.size:=rfl;rw[←hz] at hg hbw hwb hbw' hwg hwg' hg1 hbw1;clear hz;clear e0 e1 f1 d0 d1 d2 d3;clear e2 hq2 H;generalize w.drewN nq=W at*;clear w;have HM:=Lib.hid ((H2.out.setpos (ps+1)).later (below_al _ (.cells #[.int .i64 13, .int .i64 (an:Int), .int .i64 (bn:Int), .int .i64 (cn:Int)] 98)));have HMO2:=Lib.hid (show McOk { s with pos:=ps+1 } from ⟨HMO.out.regs,HMO.out.rw,HMO.out.mw,HMO.out.back,HMO.out.told⟩);go_region_held3 (fun w'=>w'.cell? ⟨g,0,none⟩=some (.slice (some ⟨b,o,none⟩) l.length c)∧w'.cell? ⟨g,1,none⟩=some (.int .i64 (ps:Int))∧w'.cell? ⟨b,o+ps*4,none⟩=some (.int .i64 13)∧w'.cell? ⟨b,o+ps*4+1,none⟩=some (.int .i64 (an:Int))∧w'.cell? ⟨b,o+ps*4+2,none⟩=some (.int .i64 (bn:Int))∧w'.cell? ⟨b,o+ps*4+3,none⟩=some (.int .i64 (cn:Int)))
  (first|go_keep)
  (first|fail)
 go_wp2;have HX:Hid (Mach w0 ((W.setCell ⟨g,1,none⟩ (.int .i64 ((ps:Int)+1))).alloc (.cells #[.int .i64 13, .int .i64 (an:Int), .int .i64 (bn:Int), .int .i64 (cn:Int)] 98)) g (.slice (some ⟨b,o,none⟩) l.length c) { s with pos:=ps+1 } 0 (.slice (some ⟨q,0,none⟩) s.back.length kB) T M):=HM;have hj:Blk ((W.setCell ⟨g,1,none⟩ (.int .i64 ((ps:Int)+1))).alloc (.cells #[.int .i64 13, .int .i64 (an:Int), .int .i64 (bn:Int), .int .i64 (cn:Int)] 98)) W.heap.size 98 #[.int .i64 13, .int .i64 (an:Int), .int .i64 (bn:Int), .int .i64 (cn:Int)]:=Blk.new' (by simp);have hgx:g<((W.setCell ⟨g,1,none⟩ (.int .i64 ((ps:Int)+1))).alloc (.cells #[.int .i64 13, .int .i64 (an:Int), .int .i64 (bn:Int), .int .i64 (cn:Int)] 98)).heap.size:=HX.out.blk.lt;have hjx:=hj.lt;obtain⟨gx,hgx1⟩:∃ gx,gx=W.heap.size:=⟨_,rfl⟩;rw[←hgx1] at hj hjx hwg hwg';have HJ:=Lib.hid hj;clear k2b hj HM H2 k0 k1 k2 m0 m1 m2 m3 hbw hwb hbw' hg1 hbw1 hg;generalize (W.setCell ⟨g,1,none⟩ (.int .i64 ((ps:Int)+1))).alloc (.cells #[.int .i64 13, .int .i64 (an:Int), .int .i64 (bn:Int), .int .i64 (cn:Int)] 98)=X at*;rw[←hgx1];clear hgx1;have k2b:=HX.out.blk.cell 2;simp[mcCells] at k2b;rw[HNK.out] at k2b;obtain⟨-, -, -, -,k1f,f2, -⟩:=HX.out.blk.a3;obtain⟨u1,k1⟩:∃ u,X.cell? ⟨g,1,none⟩=some u:=⟨_,HX.out.blk.cell 1⟩;have k3:=HX.out.ob.cells (g:=q) rfl nk _ (natsV_at (by show nk<s.back.length;rw[HNK.out];omega));rw[add_plain,Nat.zero_add] at k3;have k4:X.cell? ⟨q,nk,none⟩=some (.int .i64 (v:Int)):=by rw[←HV.out];exact k3
 clear k3;have hqx:=(HX.out.ob.lt q rfl).2;have hqg':g≠q:=Ne.symm hqg;have hkk:nk+1≤kB:=by
  rcases HX.out.ob.2 with⟨h0,_⟩|⟨_,_,_,hv,_,_,hc,_⟩
  ·cases h0
  ·injection hv with _ _ e3
   have:=HNK.out;have hc':s.back.length≤_:=hc;rw[←e3] at hc';omega
 have hkm:kB≤9223372036854775807:=by
  rcases HX.out.ob.2 with⟨h0,_⟩|⟨_,_,_,hv,_,_,_,hm,_⟩
  ·cases h0
  ·injection hv with _ _ e3
   rw[←e3] at hm;unfold maxLen at hm;exact hm
 have nk1:(nk:Int)<(nk:Int)+1:=by omega
 have nk2:nk≤kB:=by omega
 have nk3:(nk:Int)≤(kB:Int):=by omega
 have nk4:(0:Int)≤(nk:Int):=by omega
 go_wp2;go_region_law (first|fail)
 all_goals
  go_wp2;go_ret;exact StepPost.mk' (HS.out.trans (by rw[HV.out])) rfl rfl (((HX.out.setpos v).popback nk (by have:=HNK.out;show nk≤s.back.length;omega)).later (Below.drewN' (Below.refl _ _) 2))
theorem step_any (w0:World) (g c:Nat) (A:Option Addr) (l:List Ins) (s:Mc) (B T M:Value) (w:World) (hr:RdI w0 w0.heap.size A l) (hl:l.length≤200) (hc:CodeOk l) (h:Mach w0 w g (.slice A l.length c) s 0 B T M) (hs:McOk s) (hml:s.mem.length≤1024):
  Calls Tryz.prog 102 #[.pointer (some ⟨g,0,none⟩)] w (StepPost w0 g (.slice A l.length c) l s):=by
 rcases Nat.lt_or_ge s.pos l.length with hp|hp
 ·have hi:=hc _ (List.getElem_mem hp)
  have o1:=hi.op1;have o2:=hi.op2;by_cases h8:l[s.pos].op=8
  ·exact step_ld w0 g c A l s B T M w hr hl h hs hml hp _ rfl hi h8
  by_cases h9:l[s.pos].op=9
  ·exact step_st w0 g c A l s B T M w hr hl h hs hml hp _ rfl hi h9
  by_cases h10:l[s.pos].op=10
  ·exact step_jmp w0 g c A l s B T M w hr hl h hs hml hp _ rfl hi h10
  by_cases h11:l[s.pos].op=11
  ·by_cases hz:rg s l[s.pos].a=0
   ·exact step_jz0 w0 g c A l s B T M w hr hl h hs hml hp _ rfl hi ⟨h11,hz⟩
   ·exact step_jz1 w0 g c A l s B T M w hr hl h hs hml hp _ rfl hi ⟨h11,hz⟩
  by_cases h12:l[s.pos].op=12
  ·by_cases hz:s.back.length=16
   ·exact step_call4 w0 g c A l s B T M w hr hl h hs hml hp _ rfl hi ⟨h12,hz⟩
   ·exact step_call0 w0 g c A l s B T M w hr hl h hs hml hp _ rfl hi ⟨h12,hz⟩
  by_cases h13:l[s.pos].op=13
  ·by_cases hz:s.back.length=0
   ·exact step_ret1 w0 g c A l s B T M w hr hl h hs hml hp _ rfl hi ⟨h13,hz⟩
   ·exact step_ret0 w0 g c A l s B T M w hr hl h hs hml hp _ rfl hi ⟨h13,hz⟩
  by_cases h14:l[s.pos].op=14
  ·by_cases hz:s.told.length=100
   ·exact step_told5 w0 g c A l s B T M w hr hl h hs hml hp _ rfl hi ⟨h14,hz⟩
   ·exact step_told0 w0 g c A l s B T M w hr hl h hs hml hp _ rfl hi ⟨h14,hz⟩
  by_cases h15:l[s.pos].op=15
  ·exact step_halt w0 g c A l s B T M w hr hl h hs hml hp _ rfl hi h15
  ·exact step_rck w0 g c A l s B T M w hr hl h hs hml hp _ rfl hi ⟨o1,by omega⟩
 ·exact step_none w0 g c A l s B T M w h hp
end Go.Proofs.YtdjamdbamkhblabGreatDoor
