/- A round of the reference's loop, a theorem for each way (sub, lt1, ld0, jzA0, call4A, ret1, halt): no condition. A round of the reference's loop, a theorem for each way (and, lt0, st0, jzA1, call0A, ret0): no condition. -/
import Derived.Test.YtdjamdbamkhblabGreatDoorG33
namespace Go.Proofs.YtdjamdbamkhblabGreatDoor
open Go.RowKit
set_option linter.unusedVariables false
set_option linter.unusedSimpArgs false
set_option maxRecDepth 1000000 in
set_option maxHeartbeats 4000000 in
theorem rc_sub:RcStmt fun s x=>x.op=3:=rcOf fun w1 wr gO g c n k b o l s0 s B T M u Q0 xo an bn cn ps xv yv zv hO HX h hs hl hml hk HIN HRN HCO HM0 o1 o2 a0 a7 b0 b7 c0 cw c7 hbB d0 d1 d2 d3 hg hg1 hlo hbg hbw hbw1 hr8 HMO HPS hp hp2 hk0 hk1 hk2 rb rc ra fa hxw hyw HXV HYV HZV ho=>by
 simp only at ho;subst ho;replace rc:=rc (by omega);have hc7:cn≤7:=by omega
 have hcn:(cn:Int)<8:=by omega
 have HS:Hid (step l s=({ s with pos:=ps+1,regs:=s.regs.set an ((xv+65536 - yv) % 65536) },0)):=by
  show _=_;unfold step;rw[HIN.out];simp only;rw[if_neg (by decide),if_neg (by decide),if_neg (by decide),if_neg (by decide),if_neg (by decide),if_neg (by decide),if_neg (by decide),if_neg (by decide),HPS.out,show ((cn:Int) % 8)=(cn:Int) by omega,HXV.out,HYV.out];rfl
 have H:=Lib.hid h;clear h hs;conv=>arg 2;whnf
 go_wp2;exact RWI.mk (B:=B) (p:= .int .i64 ((ps:Int)+1)) rfl rfl rfl rfl rfl rfl rfl rfl (by omega) (RLoop.next (T':=T) (M':=M) HS.out HCO.out HMO.out HM0.out HRN.out (by show ((ps:Int)+1)=((ps+1:Nat):Int);omega) (((H.out.setregE hr8 an (by omega) (by omega)).setpos (ps+1)).later (below_al _ _)))
set_option maxRecDepth 1000000 in
set_option maxHeartbeats 4000000 in
theorem rc_lt1:RcStmt fun s x=>x.op=7∧rg s x.b<rg s x.c:=rcOf fun w1 wr gO g c n k b o l s0 s B T M u Q0 xo an bn cn ps xv yv zv hO HX h hs hl hml hk HIN HRN HCO HM0 o1 o2 a0 a7 b0 b7 c0 cw c7 hbB d0 d1 d2 d3 hg hg1 hlo hbg hbw hbw1 hr8 HMO HPS hp hp2 hk0 hk1 hk2 rb rc ra fa hxw hyw HXV HYV HZV ho=>by
 simp only at ho;obtain⟨ho,hlt⟩:=ho;subst ho;replace rc:=rc (by omega);have hc7:cn≤7:=by omega
 have hcn:(cn:Int)<8:=by omega
 rw[HXV.out,HYV.out] at hlt;have HS:Hid (step l s=({ s with pos:=ps+1,regs:=(s.regs.set an 0).set an 1 },0)):=by
  show _=_;unfold step;rw[HIN.out];simp only;rw[if_neg (by decide),if_neg (by decide),if_neg (by decide),if_neg (by decide),if_neg (by decide),if_neg (by decide),if_neg (by decide),if_neg (by decide),HPS.out,show ((cn:Int) % 8)=(cn:Int) by omega,HXV.out,HYV.out,List.set_set];show ({ s with pos:=ps+1,regs:=s.regs.set an (if xv<yv then 1 else 0) },0)=_;rw[if_pos hlt]
 have hlt2:(xv:Int)<(yv:Int):=by omega
 have H:=Lib.hid h;clear h hs;conv=>arg 2;whnf
 go_wp2;exact RWI.mk (B:=B) (p:= .int .i64 ((ps:Int)+1)) rfl rfl rfl rfl rfl rfl rfl rfl (by omega) (RLoop.next (T':=T) (M':=M) HS.out HCO.out HMO.out HM0.out HRN.out (by show ((ps:Int)+1)=((ps+1:Nat):Int);omega) ((((H.out.setregE hr8 an (by omega) (v:=0) rfl).setregE (by simp[hr8]) an (by omega) (v:=1) rfl).setpos (ps+1)).later (below_al _ _)))
set_option maxRecDepth 1000000 in
set_option maxHeartbeats 4000000 in
theorem rc_ld0:RcStmt fun s x=>x.op=8∧x.c=0∧rg s x.b<s.mem.length:=rcOf fun w1 wr gO g c n k b o l s0 s B T M u Q0 xo an bn cn ps xv yv zv hO HX h hs hl hml hk HIN HRN HCO HM0 o1 o2 a0 a7 b0 b7 c0 cw c7 hbB d0 d1 d2 d3 hg hg1 hlo hbg hbw hbw1 hr8 HMO HPS hp hp2 hk0 hk1 hk2 rb rc ra fa hxw hyw HXV HYV HZV ho=>by
 simp only at ho;obtain⟨ho,hc00,hlt⟩:=ho;subst ho;replace rc:=rc (by omega);have hcn:(cn:Int)<8:=by omega
 clear hc00;rw[HXV.out] at hlt;have han:(an:Int)<8:=by omega
 have han0:(0:Int)≤(an:Int):=by omega
 have hx0:(0:Int)≤(xv:Int):=by omega
 have hlt2:(xv:Int)<(s.mem.length:Int):=by omega
 obtain⟨q,cap,hv,hq,hql⟩:=h.om.form (by omega);subst hv;have e10:=h.blk.cell 10;simp[ocCells,natV] at e10;have e4:=h.om.cells (g:=q) rfl xv _ (natsV_at hlt);rw[add_plain,Nat.zero_add] at e4;unfold natV at e4;have hgq:g≠q:=fun e=>own_blk_ne h.om h.blk (by decide) (by rw[e];rfl)
 have hqg:q≠g:=Ne.symm hgq;have hq1:q<wr.heap.size+1:=by omega
 obtain⟨v,hvv⟩:∃ v,s.mem.getD xv 0=v:=⟨_,rfl⟩;rw[hvv] at e4;have HVV:=Lib.hid hvv;clear hvv;have fq:wr.frozen? ⟨q,xv,none⟩=false:=by
  rcases h.om.2 with⟨h0,_⟩|⟨g',cap',cur,hv,_,hh,_⟩
  ·cases h0
  ·injection hv with e1
   injection e1 with e1
   injection e1 with e1
   subst e1;exact Blk.frozen (t:=3) (cs:=cur) hh xv
 have hqc:s.mem.length≤cap:=by
  rcases h.om.2 with⟨h0,_⟩|⟨_,_,_,hv,_,_,hc,_⟩
  ·cases h0
  ·injection hv with _ _ e3
   rw[←e3] at hc;exact hc
 have HQC:=Lib.hid hqc;have HLT:=Lib.hid hlt;clear hqc;have HS:Hid (step l s=({ s with pos:=ps+1,regs:=s.regs.set an v },0)):=by
  show _=_;unfold step;rw[HIN.out];simp only;rw[if_pos trivial,HXV.out,if_pos HLT.out,HPS.out,HVV.out];rfl
 have H:=Lib.hid h;clear h hs;conv=>arg 2;whnf
 go_wp2;go_region
 all_goals
  go_wp2;exact RWI.mk (B:=B) (p:= .int .i64 ((ps:Int)+1)) rfl rfl rfl rfl rfl rfl rfl rfl (by omega) (RLoop.next (T':=T) (M':=(.slice (some ⟨q,0,none⟩) s.mem.length cap)) HS.out HCO.out HMO.out HM0.out HRN.out (by show ((ps:Int)+1)=((ps+1:Nat):Int);omega) (((H.out.setregE hr8 an (by omega) rfl).setpos (ps+1)).later (Below.drewN' (below_al _ _) 1)))
set_option maxRecDepth 1000000 in
set_option maxHeartbeats 4000000 in
theorem rc_jzA0:RcStmt fun s x=>x.op=11∧x.c<8∧rg s x.a=0:=rcOf fun w1 wr gO g c n k b o l s0 s B T M u Q0 xo an bn cn ps xv yv zv hO HX h hs hl hml hk HIN HRN HCO HM0 o1 o2 a0 a7 b0 b7 c0 cw c7 hbB d0 d1 d2 d3 hg hg1 hlo hbg hbw hbw1 hr8 HMO HPS hp hp2 hk0 hk1 hk2 rb rc ra fa hxw hyw HXV HYV HZV ho=>by
 simp only at ho;obtain⟨ho,hc00,hz⟩:=ho;subst ho;replace rc:=rc (by omega);have hcn:(cn:Int)<8:=by omega
 rw[HZV.out] at hz;have hzz:((zv:Int) == 0)=true:=by rw[beq_iff_eq];omega
 have HS:Hid (step l s=({ s with pos:=cn },0)):=by
  show _=_;unfold step;rw[HIN.out];simp only;rw[if_neg (by decide),if_neg (by decide),if_neg (by decide),if_pos trivial,HZV.out,if_pos hz];rfl
 have HZ:=Lib.hid hz;clear hz;have H:=Lib.hid h;clear h hs;conv=>arg 2;whnf
 go_wp2;exact RWI.mk (B:=B) (p:= .int .i64 (cn:Int)) rfl rfl rfl rfl rfl rfl rfl rfl (by omega) (RLoop.next (T':=T) (M':=M) HS.out HCO.out HMO.out HM0.out HRN.out (by rfl) ((H.out.setpos (cn)).later (below_al _ _)))
set_option maxRecDepth 1000000 in
set_option maxHeartbeats 4000000 in
theorem rc_call4A:RcStmt fun s x=>x.op=12∧x.c<8∧s.back.length=16:=rcOf fun w1 wr gO g c n k b o l s0 s B T M u Q0 xo an bn cn ps xv yv zv hO HX h hs hl hml hk HIN HRN HCO HM0 o1 o2 a0 a7 b0 b7 c0 cw c7 hbB d0 d1 d2 d3 hg hg1 hlo hbg hbw hbw1 hr8 HMO HPS hp hp2 hk0 hk1 hk2 rb rc ra fa hxw hyw HXV HYV HZV ho=>by
 simp only at ho;obtain⟨ho,hc00,hb⟩:=ho;subst ho;replace rc:=rc (by omega);have hcn:(cn:Int)<8:=by omega
 have hb2:(16:Int)≤(s.back.length:Int):=by omega
 obtain⟨AB,kB,rfl⟩:=own_slice h.ob;obtain⟨AT,kT,AM,kM,v0,v1,v2,v3,v4,v5,v6,v7,rfl,rfl,e0,e9,e10,f0,r0,r1,r2,r3,r4,r5,r6,r7,y0,y1,y2,y3,y4,y5,y6,y7,y8,y9,y10,z0,z1,z2,z3,z4,z5,z6,z7,z8,z9,z10,hgO,hgne,hgne',hgOw,hgOw1,HW,HV⟩:=ex_open h hO;replace HV:=Lib.hid (HV 4);have HS:Hid (step l s=({ s with pos:=ps+1 },4)):=by
  show _=_;unfold step;rw[HIN.out];simp only;rw[if_neg (by decide),if_neg (by decide),if_neg (by decide),if_neg (by decide),if_pos trivial,if_pos hb,HPS.out]
 clear hb;have H:=Lib.hid h;clear h hs;conv=>arg 2;whnf
 go_wp2;exact HX.out _ _ _ 4 (.slice AT s.told.length kT) (.slice AM s.mem.length kM) (HRN.out.symm.trans ((runs_stop (by rw[HS.out];simp)).trans HS.out)) ((XFin.of (B:=(.slice AB s.back.length kB)) ((H.out.setend 4).setpos (ps+1)) (HW.out.far (p:=⟨g,0,none⟩) hgne _) rfl HV.out).alloc _) rfl rfl rfl rfl
set_option maxRecDepth 1000000 in
set_option maxHeartbeats 4000000 in
theorem rc_ret1:RcStmt fun s x=>x.op=13∧x.c=0∧s.back.length=0:=rcOf fun w1 wr gO g c n k b o l s0 s B T M u Q0 xo an bn cn ps xv yv zv hO HX h hs hl hml hk HIN HRN HCO HM0 o1 o2 a0 a7 b0 b7 c0 cw c7 hbB d0 d1 d2 d3 hg hg1 hlo hbg hbw hbw1 hr8 HMO HPS hp hp2 hk0 hk1 hk2 rb rc ra fa hxw hyw HXV HYV HZV ho=>by
 simp only at ho;obtain⟨ho,hc00,hb⟩:=ho;subst ho;replace rc:=rc (by omega);have hcn:(cn:Int)<8:=by omega
 clear hc00;have hb2:((s.back.length:Int) == 0)=true:=by rw[beq_iff_eq];omega
 obtain⟨AB,kB,rfl⟩:=own_slice h.ob;obtain⟨AT,kT,AM,kM,v0,v1,v2,v3,v4,v5,v6,v7,rfl,rfl,e0,e9,e10,f0,r0,r1,r2,r3,r4,r5,r6,r7,y0,y1,y2,y3,y4,y5,y6,y7,y8,y9,y10,z0,z1,z2,z3,z4,z5,z6,z7,z8,z9,z10,hgO,hgne,hgne',hgOw,hgOw1,HW,HV⟩:=ex_open h hO;replace HV:=Lib.hid (HV 1);have HS:Hid (step l s=({ s with pos:=ps+1 },1)):=by
  show _=_;unfold step;rw[HIN.out];simp only;rw[if_neg (by decide),if_neg (by decide),if_neg (by decide),if_neg (by decide),if_neg (by decide),if_pos trivial,if_pos hb,HPS.out]
 clear hb;have H:=Lib.hid h;clear h hs;conv=>arg 2;whnf
 go_wp2;exact HX.out _ _ _ 1 (.slice AT s.told.length kT) (.slice AM s.mem.length kM) (HRN.out.symm.trans ((runs_stop (by rw[HS.out];simp)).trans HS.out)) ((XFin.of (B:=(.slice AB s.back.length kB)) ((H.out.setend 1).setpos (ps+1)) (HW.out.far (p:=⟨g,0,none⟩) hgne _) rfl HV.out).alloc _) rfl rfl rfl rfl
set_option maxRecDepth 1000000 in
set_option maxHeartbeats 4000000 in
theorem rc_halt:RcStmt fun s x=>x.op=15∧x.c=0:=rcOf fun w1 wr gO g c n k b o l s0 s B T M u Q0 xo an bn cn ps xv yv zv hO HX h hs hl hml hk HIN HRN HCO HM0 o1 o2 a0 a7 b0 b7 c0 cw c7 hbB d0 d1 d2 d3 hg hg1 hlo hbg hbw hbw1 hr8 HMO HPS hp hp2 hk0 hk1 hk2 rb rc ra fa hxw hyw HXV HYV HZV ho=>by
 simp only at ho;obtain⟨ho,hc00⟩:=ho;subst ho;replace rc:=rc (by omega);have hcn:(cn:Int)<8:=by omega
 clear hc00;obtain⟨AT,kT,AM,kM,v0,v1,v2,v3,v4,v5,v6,v7,rfl,rfl,e0,e9,e10,f0,r0,r1,r2,r3,r4,r5,r6,r7,y0,y1,y2,y3,y4,y5,y6,y7,y8,y9,y10,z0,z1,z2,z3,z4,z5,z6,z7,z8,z9,z10,hgO,hgne,hgne',hgOw,hgOw1,HW,HV⟩:=ex_open h hO;replace HV:=Lib.hid (HV 1);have HS:Hid (step l s=({ s with pos:=ps+1 },1)):=by
  show _=_;unfold step;rw[HIN.out];simp only;rw[if_neg (by decide),if_neg (by decide),if_neg (by decide),if_neg (by decide),if_neg (by decide),if_neg (by decide),if_neg (by decide),if_pos trivial,HPS.out]
 have H:=Lib.hid h;clear h hs;conv=>arg 2;whnf
 go_wp2;exact HX.out _ _ _ 1 (.slice AT s.told.length kT) (.slice AM s.mem.length kM) (HRN.out.symm.trans ((runs_stop (by rw[HS.out];simp)).trans HS.out)) ((XFin.of (B:=B) ((H.out.setend 1).setpos (ps+1)) (HW.out.far (p:=⟨g,0,none⟩) hgne _) rfl HV.out).alloc _) rfl rfl rfl rfl
end Go.Proofs.YtdjamdbamkhblabGreatDoor
namespace Go.Proofs.YtdjamdbamkhblabGreatDoor
open Go.RowKit
set_option linter.unusedVariables false
set_option linter.unusedSimpArgs false
set_option maxRecDepth 1000000 in
set_option maxHeartbeats 4000000 in
theorem rc_and:RcStmt fun s x=>x.op=4:=rcOf fun w1 wr gO g c n k b o l s0 s B T M u Q0 xo an bn cn ps xv yv zv hO HX h hs hl hml hk HIN HRN HCO HM0 o1 o2 a0 a7 b0 b7 c0 cw c7 hbB d0 d1 d2 d3 hg hg1 hlo hbg hbw hbw1 hr8 HMO HPS hp hp2 hk0 hk1 hk2 rb rc ra fa hxw hyw HXV HYV HZV ho=>by
 simp only at ho;subst ho;replace rc:=rc (by omega);have hc7:cn≤7:=by omega
 have hcn:(cn:Int)<8:=by omega
 have HS:Hid (step l s=({ s with pos:=ps+1,regs:=s.regs.set an (xv &&& yv) },0)):=by
  show _=_;unfold step;rw[HIN.out];simp only;rw[if_neg (by decide),if_neg (by decide),if_neg (by decide),if_neg (by decide),if_neg (by decide),if_neg (by decide),if_neg (by decide),if_neg (by decide),HPS.out,show ((cn:Int) % 8)=(cn:Int) by omega,HXV.out,HYV.out];rfl
 have b1:=i64_and_word xv yv (by omega) (by omega);have H:=Lib.hid h;clear h hs;conv=>arg 2;whnf
 go_wp2;exact RWI.mk (B:=B) (p:= .int .i64 ((ps:Int)+1)) rfl rfl rfl rfl rfl rfl rfl rfl (by omega) (RLoop.next (T':=T) (M':=M) HS.out HCO.out HMO.out HM0.out HRN.out (by show ((ps:Int)+1)=((ps+1:Nat):Int);omega) (((H.out.setregE hr8 an (by omega) (rfl)).setpos (ps+1)).later (below_al _ _)))
set_option maxRecDepth 1000000 in
set_option maxHeartbeats 4000000 in
theorem rc_lt0:RcStmt fun s x=>x.op=7∧¬ rg s x.b<rg s x.c:=rcOf fun w1 wr gO g c n k b o l s0 s B T M u Q0 xo an bn cn ps xv yv zv hO HX h hs hl hml hk HIN HRN HCO HM0 o1 o2 a0 a7 b0 b7 c0 cw c7 hbB d0 d1 d2 d3 hg hg1 hlo hbg hbw hbw1 hr8 HMO HPS hp hp2 hk0 hk1 hk2 rb rc ra fa hxw hyw HXV HYV HZV ho=>by
 simp only at ho;obtain⟨ho,hlt⟩:=ho;subst ho;replace rc:=rc (by omega);have hc7:cn≤7:=by omega
 have hcn:(cn:Int)<8:=by omega
 rw[HXV.out,HYV.out] at hlt;have HS:Hid (step l s=({ s with pos:=ps+1,regs:=s.regs.set an 0 },0)):=by
  show _=_;unfold step;rw[HIN.out];simp only;rw[if_neg (by decide),if_neg (by decide),if_neg (by decide),if_neg (by decide),if_neg (by decide),if_neg (by decide),if_neg (by decide),if_neg (by decide),HPS.out,show ((cn:Int) % 8)=(cn:Int) by omega,HXV.out,HYV.out];show ({ s with pos:=ps+1,regs:=s.regs.set an (if xv<yv then 1 else 0) },0)=_;rw[if_neg hlt]
 have hlt2:(yv:Int)≤(xv:Int):=by omega
 have H:=Lib.hid h;clear h hs;conv=>arg 2;whnf
 go_wp2;exact RWI.mk (B:=B) (p:= .int .i64 ((ps:Int)+1)) rfl rfl rfl rfl rfl rfl rfl rfl (by omega) (RLoop.next (T':=T) (M':=M) HS.out HCO.out HMO.out HM0.out HRN.out (by show ((ps:Int)+1)=((ps+1:Nat):Int);omega) (((H.out.setregE hr8 an (by omega) (rfl)).setpos (ps+1)).later (below_al _ _)))
set_option maxRecDepth 1000000 in
set_option maxHeartbeats 4000000 in
theorem rc_st0:RcStmt fun s x=>x.op=9∧x.c=0∧rg s x.b<s.mem.length:=rcOf fun w1 wr gO g c n k b o l s0 s B T M u Q0 xo an bn cn ps xv yv zv hO HX h hs hl hml hk HIN HRN HCO HM0 o1 o2 a0 a7 b0 b7 c0 cw c7 hbB d0 d1 d2 d3 hg hg1 hlo hbg hbw hbw1 hr8 HMO HPS hp hp2 hk0 hk1 hk2 rb rc ra fa hxw hyw HXV HYV HZV ho=>by
 simp only at ho;obtain⟨ho,hc00,hlt⟩:=ho;subst ho;replace rc:=rc (by omega);have hcn:(cn:Int)<8:=by omega
 clear hc00;rw[HXV.out] at hlt;have han:(an:Int)<8:=by omega
 have han0:(0:Int)≤(an:Int):=by omega
 have hx0:(0:Int)≤(xv:Int):=by omega
 have hlt2:(xv:Int)<(s.mem.length:Int):=by omega
 obtain⟨q,cap,hv,hq,hql⟩:=h.om.form (by omega);subst hv;have e10:=h.blk.cell 10;simp[ocCells,natV] at e10;have e4:=h.om.cells (g:=q) rfl xv _ (natsV_at hlt);rw[add_plain,Nat.zero_add] at e4;unfold natV at e4;have hgq:g≠q:=fun e=>own_blk_ne h.om h.blk (by decide) (by rw[e];rfl)
 have hqg:q≠g:=Ne.symm hgq;have hq1:q<wr.heap.size+1:=by omega
 obtain⟨v,hvv⟩:∃ v,s.mem.getD xv 0=v:=⟨_,rfl⟩;rw[hvv] at e4;have HVV:=Lib.hid hvv;clear hvv;have fq:wr.frozen? ⟨q,xv,none⟩=false:=by
  rcases h.om.2 with⟨h0,_⟩|⟨g',cap',cur,hv,_,hh,_⟩
  ·cases h0
  ·injection hv with e1
   injection e1 with e1
   injection e1 with e1
   subst e1;exact Blk.frozen (t:=3) (cs:=cur) hh xv
 have hqc:s.mem.length≤cap:=by
  rcases h.om.2 with⟨h0,_⟩|⟨_,_,_,hv,_,_,hc,_⟩
  ·cases h0
  ·injection hv with _ _ e3
   rw[←e3] at hc;exact hc
 have HQC:=Lib.hid hqc;have HLT:=Lib.hid hlt;clear hqc;have HS:Hid (step l s=({ s with pos:=ps+1,mem:=s.mem.set xv zv },0)):=by
  show _=_;unfold step;rw[HIN.out];simp only;rw[if_neg (by decide),if_pos trivial,HXV.out,if_pos HLT.out,HPS.out,HZV.out]
 have H:=Lib.hid h;clear h hs;conv=>arg 2;whnf
 go_wp2;go_region
 all_goals
  go_wp2;exact RWI.mk (B:=B) (p:= .int .i64 ((ps:Int)+1)) rfl rfl rfl rfl rfl rfl rfl rfl (by omega) (RLoop.next (T':=T) (M':=(.slice (some ⟨q,0,none⟩) s.mem.length cap)) HS.out HCO.out HMO.out HM0.out HRN.out (by show ((ps:Int)+1)=((ps+1:Nat):Int);omega) (((H.out.setmem (q:=q) rfl xv zv).setpos (ps+1)).later (Below.drewN' (below_al _ _) 1)))
set_option maxRecDepth 1000000 in
set_option maxHeartbeats 4000000 in
theorem rc_jzA1:RcStmt fun s x=>x.op=11∧x.c<8∧rg s x.a≠0:=rcOf fun w1 wr gO g c n k b o l s0 s B T M u Q0 xo an bn cn ps xv yv zv hO HX h hs hl hml hk HIN HRN HCO HM0 o1 o2 a0 a7 b0 b7 c0 cw c7 hbB d0 d1 d2 d3 hg hg1 hlo hbg hbw hbw1 hr8 HMO HPS hp hp2 hk0 hk1 hk2 rb rc ra fa hxw hyw HXV HYV HZV ho=>by
 simp only at ho;obtain⟨ho,hc00,hz⟩:=ho;subst ho;replace rc:=rc (by omega);have hcn:(cn:Int)<8:=by omega
 rw[HZV.out] at hz;have hzz:((zv:Int) == 0)=false:=by rw[beq_eq_false_iff_ne];omega
 have HS:Hid (step l s=({ s with pos:=ps+1 },0)):=by
  show _=_;unfold step;rw[HIN.out];simp only;rw[if_neg (by decide),if_neg (by decide),if_neg (by decide),if_pos trivial,HZV.out,if_neg hz,HPS.out]
 have HZ:=Lib.hid hz;clear hz;have H:=Lib.hid h;clear h hs;conv=>arg 2;whnf
 go_wp2;exact RWI.mk (B:=B) (p:= .int .i64 ((ps:Int)+1)) rfl rfl rfl rfl rfl rfl rfl rfl (by omega) (RLoop.next (T':=T) (M':=M) HS.out HCO.out HMO.out HM0.out HRN.out (by show ((ps:Int)+1)=((ps+1:Nat):Int);omega) ((H.out.setpos (ps+1)).later (below_al _ _)))
set_option maxRecDepth 1000000 in
set_option maxHeartbeats 4000000 in
theorem rc_call0A:RcStmt fun s x=>x.op=12∧x.c<8∧s.back.length≠16:=rcOf fun w1 wr gO g c n k b o l s0 s B T M u Q0 xo an bn cn ps xv yv zv hO HX h hs hl hml hk HIN HRN HCO HM0 o1 o2 a0 a7 b0 b7 c0 cw c7 hbB d0 d1 d2 d3 hg hg1 hlo hbg hbw hbw1 hr8 HMO HPS hp hp2 hk0 hk1 hk2 rb rc ra fa hxw hyw HXV HYV HZV ho=>by
 simp only at ho;obtain⟨ho,hc00,hb⟩:=ho;subst ho;replace rc:=rc (by omega);have hcn:(cn:Int)<8:=by omega
 have hb2:(s.back.length:Int)<16:=by have:=hs.back;omega
 obtain⟨AB,kB,rfl⟩:=own_slice h.ob;have HS:Hid (step l s=({ s with pos:=cn,back:=s.back++ [ps+1] },0)):=by
  show _=_;unfold step;rw[HIN.out];simp only;rw[if_neg (by decide),if_neg (by decide),if_neg (by decide),if_neg (by decide),if_pos trivial,if_neg hb,HPS.out];rfl
 have hU:=Tryz.underlying23;obtain⟨i0,hi0,hz0,hz1,hz2⟩:=info_parts info_int;clear hb;have H:=Lib.hid h;clear h hs;conv=>arg 2;whnf
 go_wp2_with (at_builtin;refine wpList_append_lies _ rfl _ _ _ rfl w1.heap.size 3 i0 _ 1 8 hU hi0 hz0 hz1 hz2 rfl (by omega) (.slice AB s.back.length kB) s.back.length (natsV s.back) rfl ((H.out.ob.alloc _).alloc _) ⟨wr.heap.size+1,0,none⟩ 1 1 [.int .i64 ((ps:Int)+1)] rfl rfl ?new ?one (by omega) ?len ?byt ?bas (wr.heap.size+1+1) (by simp) ?_)
 case new=>exact World.news_of_block (fr:=(0,0)) (B:=wr.heap.size+1) (t:=3) (cs:= #[.int .i64 ((ps:Int)+1)]) (Blk.new' (by simp))
 case one=>(intro u hu;simp at hu;subst hu;rfl)
 case len=>(simp[maxLen];omega)
 case byt=>omega
 case bas=>(have:=H.out.below.size;simp;omega)
 intro gq cap w2 hown1 hgrow hat hlt1;have kj:=(((Blk.new wr 98 #[.int .i64 12, .int .i64 (an:Int), .int .i64 (bn:Int), .int .i64 (cn:Int)]).alloc (.cells #[.int .i64 ((ps:Int)+1)] 3))).grown hgrow (fun e=>by
  have:=(H.out.ob.lt wr.heap.size e.symm).2;omega)
 have j3:=kj.cell 3;simp at j3;clear kj;go_wp2;exact RWI.mk (B:=(.slice (some ⟨gq,0,none⟩) (s.back.length+1) cap)) (p:= .int .i64 (cn:Int)) rfl rfl rfl rfl rfl rfl rfl rfl (by omega) (RLoop.next (T':=T) (M':=M) HS.out HCO.out HMO.out HM0.out HRN.out (by rfl) ((H.out.pushback (x:=ps+1) ((below_al _ _).alloc (by simp) _) hown1 rfl hgrow (hat.imp_right (fun e=>by simp;exact e))).setpos cn))
set_option maxRecDepth 1000000 in
set_option maxHeartbeats 4000000 in
theorem rc_ret0:RcStmt fun s x=>x.op=13∧x.c=0∧s.back.length≠0:=rcOf fun w1 wr gO g c n k b o l s0 s B T M u Q0 xo an bn cn ps xv yv zv hO HX h hs hl hml hk HIN HRN HCO HM0 o1 o2 a0 a7 b0 b7 c0 cw c7 hbB d0 d1 d2 d3 hg hg1 hlo hbg hbw hbw1 hr8 HMO HPS hp hp2 hk0 hk1 hk2 rb rc ra fa hxw hyw HXV HYV HZV ho=>by
 simp only at ho;obtain⟨ho,hc00,hb⟩:=ho;subst ho;replace rc:=rc (by omega);have hcn:(cn:Int)<8:=by omega
 clear hc00;obtain⟨nk,hnk⟩:∃ nk,s.back.length=nk+1:=⟨s.back.length - 1,by omega⟩;have hn16:(nk:Int)≤16:=by have:=hs.back;omega
 obtain⟨q,kB,hBB,hq1,hq2⟩:=h.ob.form (by omega);subst hBB;have k3:=h.ob.cells (g:=q) rfl nk _ (natsV_at (by omega));rw[add_plain,Nat.zero_add] at k3;unfold natV at k3;obtain⟨v,hv⟩:∃ v,s.back.getD nk 0=v:=⟨_,rfl⟩;rw[hv] at k3;have hkk:nk+1≤kB∧kB≤maxLen:=by
  rcases h.ob.2 with⟨h0,_⟩|⟨_,_,_,hv,_,_,hc,hm,_⟩
  ·cases h0
  ·injection hv with _ _ e3
   rw[←e3] at hc hm;exact⟨by omega,hm⟩
 obtain⟨hkk1,hkm⟩:=hkk;unfold maxLen at hkm;have nk2:nk≤kB:=by omega
 have nk3:(nk:Int)≤(kB:Int):=by omega
 have nk4:(0:Int)≤(nk:Int):=by omega
 have nk5:((nk:Int)+1 == 0)=false:=by rw[beq_eq_false_iff_ne];omega
 have HS:Hid (step l s=({ s with pos:=v,back:=s.back.take nk },0)):=by
  show _=_;unfold step;rw[HIN.out];simp only;rw[if_neg (by decide),if_neg (by decide),if_neg (by decide),if_neg (by decide),if_neg (by decide),if_pos trivial,if_neg hb,show s.back.length - 1=nk by omega,hv]
 have HNK:=Lib.hid hnk;clear hb hv;rw[hnk];clear hnk;have H:=Lib.hid h;clear h hs;conv=>arg 2;whnf
 go_wp2;exact RWI.mk (B:=(.slice (some ⟨q,0,none⟩) nk kB)) (p:= .int .i64 (v:Int)) rfl rfl rfl rfl rfl rfl rfl rfl (by omega) (RLoop.next (T':=T) (M':=M) HS.out HCO.out HMO.out HM0.out HRN.out (by rfl) (((H.out.setpos v).popback nk (by have:=HNK.out;show nk≤s.back.length;omega)).later (below_al _ _)))
end Go.Proofs.YtdjamdbamkhblabGreatDoor
