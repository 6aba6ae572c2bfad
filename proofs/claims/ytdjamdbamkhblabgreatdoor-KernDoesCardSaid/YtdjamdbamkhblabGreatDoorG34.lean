/- A round of the reference's loop, a theorem for each way (li, or, ldF, jmpA, jzB0, call4B, tell5): no condition. A round of the reference's loop, a theorem for each way (add, xor, stF, jmpB, jzB1, call0B, tell0): no condition. -/
import Derived.Test.YtdjamdbamkhblabGreatDoorG33
namespace Go.Proofs.YtdjamdbamkhblabGreatDoor
open Go.RowKit
set_option linter.unusedVariables false
set_option linter.unusedSimpArgs false
set_option maxRecDepth 1000000 in
set_option maxHeartbeats 4000000 in
theorem rc_li:RcStmt fun s x=>x.op=1:=rcOf fun w1 wr gO g c n k b o l s0 s B T M u Q0 xo an bn cn ps xv yv zv hO HX h hs hl hml hk HIN HRN HCO HM0 o1 o2 a0 a7 b0 b7 c0 cw c7 hbB d0 d1 d2 d3 hg hg1 hlo hbg hbw hbw1 hr8 HMO HPS hp hp2 hk0 hk1 hk2 rb rc ra fa hxw hyw HXV HYV HZV ho=>by
 simp only at ho;subst ho;clear rc;have HS:Hid (step l s=({ s with pos:=ps+1,regs:=s.regs.set an cn },0)):=by
  show _=_;unfold step;rw[HIN.out];simp only;rw[if_neg (by decide),if_neg (by decide),if_neg (by decide),if_neg (by decide),if_neg (by decide),if_neg (by decide),if_neg (by decide),if_neg (by decide),HPS.out];rfl
 have H:=Lib.hid h;clear h hs;conv=>arg 2;whnf
 go_wp2;exact RWI.mk (B:=B) (p:= .int .i64 ((ps:Int)+1)) rfl rfl rfl rfl rfl rfl rfl rfl (by omega) (RLoop.next (T':=T) (M':=M) HS.out HCO.out HMO.out HM0.out HRN.out (by show ((ps:Int)+1)=((ps+1:Nat):Int);omega) (((H.out.setregE hr8 an (by omega) (rfl)).setpos (ps+1)).later (below_al _ _)))
set_option maxRecDepth 1000000 in
set_option maxHeartbeats 4000000 in
theorem rc_or:RcStmt fun s x=>x.op=5:=rcOf fun w1 wr gO g c n k b o l s0 s B T M u Q0 xo an bn cn ps xv yv zv hO HX h hs hl hml hk HIN HRN HCO HM0 o1 o2 a0 a7 b0 b7 c0 cw c7 hbB d0 d1 d2 d3 hg hg1 hlo hbg hbw hbw1 hr8 HMO HPS hp hp2 hk0 hk1 hk2 rb rc ra fa hxw hyw HXV HYV HZV ho=>by
 simp only at ho;subst ho;replace rc:=rc (by omega);have hc7:cn≤7:=by omega
 have hcn:(cn:Int)<8:=by omega
 have HS:Hid (step l s=({ s with pos:=ps+1,regs:=s.regs.set an (xv |||yv) },0)):=by
  show _=_;unfold step;rw[HIN.out];simp only;rw[if_neg (by decide),if_neg (by decide),if_neg (by decide),if_neg (by decide),if_neg (by decide),if_neg (by decide),if_neg (by decide),if_neg (by decide),HPS.out,show ((cn:Int) % 8)=(cn:Int) by omega,HXV.out,HYV.out];rfl
 have b1:=i64_or_word xv yv (by omega) (by omega);have H:=Lib.hid h;clear h hs;conv=>arg 2;whnf
 go_wp2;exact RWI.mk (B:=B) (p:= .int .i64 ((ps:Int)+1)) rfl rfl rfl rfl rfl rfl rfl rfl (by omega) (RLoop.next (T':=T) (M':=M) HS.out HCO.out HMO.out HM0.out HRN.out (by show ((ps:Int)+1)=((ps+1:Nat):Int);omega) (((H.out.setregE hr8 an (by omega) (rfl)).setpos (ps+1)).later (below_al _ _)))
set_option maxRecDepth 1000000 in
set_option maxHeartbeats 4000000 in
theorem rc_ldF:RcStmt fun s x=>x.op=8∧x.c=0∧s.mem.length≤rg s x.b:=rcOf fun w1 wr gO g c n k b o l s0 s B T M u Q0 xo an bn cn ps xv yv zv hO HX h hs hl hml hk HIN HRN HCO HM0 o1 o2 a0 a7 b0 b7 c0 cw c7 hbB d0 d1 d2 d3 hg hg1 hlo hbg hbw hbw1 hr8 HMO HPS hp hp2 hk0 hk1 hk2 rb rc ra fa hxw hyw HXV HYV HZV ho=>by
 simp only at ho;obtain⟨ho,hc00,hge⟩:=ho;subst ho;replace rc:=rc (by omega);have hcn:(cn:Int)<8:=by omega
 clear hc00;rw[HXV.out] at hge;have hge2:(s.mem.length:Int)≤(xv:Int):=by omega
 obtain⟨AT,kT,AM,kM,v0,v1,v2,v3,v4,v5,v6,v7,rfl,rfl,e0,e9,e10,f0,r0,r1,r2,r3,r4,r5,r6,r7,y0,y1,y2,y3,y4,y5,y6,y7,y8,y9,y10,z0,z1,z2,z3,z4,z5,z6,z7,z8,z9,z10,hgO,hgne,hgne',hgOw,hgOw1,HW,HV⟩:=ex_open h hO;replace HV:=Lib.hid (HV 3);have HS:Hid (step l s=({ s with pos:=ps+1 },3)):=by
  show _=_;unfold step;rw[HIN.out];simp only;rw[if_pos trivial,HXV.out,if_neg (by omega),HPS.out]
 have HGE:=Lib.hid hge;clear hge;have H:=Lib.hid h;clear h hs;conv=>arg 2;whnf
 go_wp2;exact HX.out _ _ _ 3 (.slice AT s.told.length kT) (.slice AM s.mem.length kM) (HRN.out.symm.trans ((runs_stop (by rw[HS.out];simp)).trans HS.out)) ((XFin.of (B:=B) ((H.out.setend 3).setpos (ps+1)) (HW.out.far (p:=⟨g,0,none⟩) hgne _) rfl HV.out).alloc _) rfl rfl rfl rfl
set_option maxRecDepth 1000000 in
set_option maxHeartbeats 4000000 in
theorem rc_jmpA:RcStmt fun s x=>x.op=10∧x.c<8:=rcOf fun w1 wr gO g c n k b o l s0 s B T M u Q0 xo an bn cn ps xv yv zv hO HX h hs hl hml hk HIN HRN HCO HM0 o1 o2 a0 a7 b0 b7 c0 cw c7 hbB d0 d1 d2 d3 hg hg1 hlo hbg hbw hbw1 hr8 HMO HPS hp hp2 hk0 hk1 hk2 rb rc ra fa hxw hyw HXV HYV HZV ho=>by
 simp only at ho;obtain⟨ho,hc00⟩:=ho;subst ho;replace rc:=rc (by omega);have hcn:(cn:Int)<8:=by omega
 have HS:Hid (step l s=({ s with pos:=cn },0)):=by
  show _=_;unfold step;rw[HIN.out];simp only;rw[if_neg (by decide),if_neg (by decide),if_pos trivial];rfl
 have H:=Lib.hid h;clear h hs;conv=>arg 2;whnf
 go_wp2;exact RWI.mk (B:=B) (p:= .int .i64 (cn:Int)) rfl rfl rfl rfl rfl rfl rfl rfl (by omega) (RLoop.next (T':=T) (M':=M) HS.out HCO.out HMO.out HM0.out HRN.out (by rfl) ((H.out.setpos cn).later (below_al _ _)))
set_option maxRecDepth 1000000 in
set_option maxHeartbeats 4000000 in
theorem rc_jzB0:RcStmt fun s x=>x.op=11∧8≤x.c∧rg s x.a=0:=rcOf fun w1 wr gO g c n k b o l s0 s B T M u Q0 xo an bn cn ps xv yv zv hO HX h hs hl hml hk HIN HRN HCO HM0 o1 o2 a0 a7 b0 b7 c0 cw c7 hbB d0 d1 d2 d3 hg hg1 hlo hbg hbw hbw1 hr8 HMO HPS hp hp2 hk0 hk1 hk2 rb rc ra fa hxw hyw HXV HYV HZV ho=>by
 simp only at ho;obtain⟨ho,hc00,hz⟩:=ho;subst ho;clear rc;have hcn:(8:Int)≤(cn:Int):=by omega
 rw[HZV.out] at hz;have hzz:((zv:Int) == 0)=true:=by rw[beq_iff_eq];omega
 have HS:Hid (step l s=({ s with pos:=cn },0)):=by
  show _=_;unfold step;rw[HIN.out];simp only;rw[if_neg (by decide),if_neg (by decide),if_neg (by decide),if_pos trivial,HZV.out,if_pos hz];rfl
 have HZ:=Lib.hid hz;clear hz;have H:=Lib.hid h;clear h hs;conv=>arg 2;whnf
 go_wp2;exact RWI.mk (B:=B) (p:= .int .i64 (cn:Int)) rfl rfl rfl rfl rfl rfl rfl rfl (by omega) (RLoop.next (T':=T) (M':=M) HS.out HCO.out HMO.out HM0.out HRN.out (by rfl) ((H.out.setpos (cn)).later (below_al _ _)))
set_option maxRecDepth 1000000 in
set_option maxHeartbeats 4000000 in
theorem rc_call4B:RcStmt fun s x=>x.op=12∧8≤x.c∧s.back.length=16:=rcOf fun w1 wr gO g c n k b o l s0 s B T M u Q0 xo an bn cn ps xv yv zv hO HX h hs hl hml hk HIN HRN HCO HM0 o1 o2 a0 a7 b0 b7 c0 cw c7 hbB d0 d1 d2 d3 hg hg1 hlo hbg hbw hbw1 hr8 HMO HPS hp hp2 hk0 hk1 hk2 rb rc ra fa hxw hyw HXV HYV HZV ho=>by
 simp only at ho;obtain⟨ho,hc00,hb⟩:=ho;subst ho;clear rc;have hcn:(8:Int)≤(cn:Int):=by omega
 have hb2:(16:Int)≤(s.back.length:Int):=by omega
 obtain⟨AB,kB,rfl⟩:=own_slice h.ob;obtain⟨AT,kT,AM,kM,v0,v1,v2,v3,v4,v5,v6,v7,rfl,rfl,e0,e9,e10,f0,r0,r1,r2,r3,r4,r5,r6,r7,y0,y1,y2,y3,y4,y5,y6,y7,y8,y9,y10,z0,z1,z2,z3,z4,z5,z6,z7,z8,z9,z10,hgO,hgne,hgne',hgOw,hgOw1,HW,HV⟩:=ex_open h hO;replace HV:=Lib.hid (HV 4);have HS:Hid (step l s=({ s with pos:=ps+1 },4)):=by
  show _=_;unfold step;rw[HIN.out];simp only;rw[if_neg (by decide),if_neg (by decide),if_neg (by decide),if_neg (by decide),if_pos trivial,if_pos hb,HPS.out]
 clear hb;have H:=Lib.hid h;clear h hs;conv=>arg 2;whnf
 go_wp2;exact HX.out _ _ _ 4 (.slice AT s.told.length kT) (.slice AM s.mem.length kM) (HRN.out.symm.trans ((runs_stop (by rw[HS.out];simp)).trans HS.out)) ((XFin.of (B:=(.slice AB s.back.length kB)) ((H.out.setend 4).setpos (ps+1)) (HW.out.far (p:=⟨g,0,none⟩) hgne _) rfl HV.out).alloc _) rfl rfl rfl rfl
set_option maxRecDepth 1000000 in
set_option maxHeartbeats 4000000 in
theorem rc_tell5:RcStmt fun s x=>x.op=14∧x.c=0∧s.told.length=100:=rcOf fun w1 wr gO g c n k b o l s0 s B T M u Q0 xo an bn cn ps xv yv zv hO HX h hs hl hml hk HIN HRN HCO HM0 o1 o2 a0 a7 b0 b7 c0 cw c7 hbB d0 d1 d2 d3 hg hg1 hlo hbg hbw hbw1 hr8 HMO HPS hp hp2 hk0 hk1 hk2 rb rc ra fa hxw hyw HXV HYV HZV ho=>by
 simp only at ho;obtain⟨ho,hc00,hb⟩:=ho;subst ho;replace rc:=rc (by omega);have hcn:(cn:Int)<8:=by omega
 clear hc00;have hb2:(100:Int)≤(s.told.length:Int):=by omega
 obtain⟨AT,kT,AM,kM,v0,v1,v2,v3,v4,v5,v6,v7,rfl,rfl,e0,e9,e10,f0,r0,r1,r2,r3,r4,r5,r6,r7,y0,y1,y2,y3,y4,y5,y6,y7,y8,y9,y10,z0,z1,z2,z3,z4,z5,z6,z7,z8,z9,z10,hgO,hgne,hgne',hgOw,hgOw1,HW,HV⟩:=ex_open h hO;replace HV:=Lib.hid (HV 5);have HS:Hid (step l s=({ s with pos:=ps+1 },5)):=by
  show _=_;unfold step;rw[HIN.out];simp only;rw[if_neg (by decide),if_neg (by decide),if_neg (by decide),if_neg (by decide),if_neg (by decide),if_neg (by decide),if_pos trivial,if_pos hb,HPS.out]
 clear hb;have H:=Lib.hid h;clear h hs;conv=>arg 2;whnf
 go_wp2;exact HX.out _ _ _ 5 (.slice AT s.told.length kT) (.slice AM s.mem.length kM) (HRN.out.symm.trans ((runs_stop (by rw[HS.out];simp)).trans HS.out)) ((XFin.of (B:=B) ((H.out.setend 5).setpos (ps+1)) (HW.out.far (p:=⟨g,0,none⟩) hgne _) rfl HV.out).alloc _) rfl rfl rfl rfl
end Go.Proofs.YtdjamdbamkhblabGreatDoor
namespace Go.Proofs.YtdjamdbamkhblabGreatDoor
open Go.RowKit
set_option linter.unusedVariables false
set_option linter.unusedSimpArgs false
set_option maxRecDepth 1000000 in
set_option maxHeartbeats 4000000 in
theorem rc_add:RcStmt fun s x=>x.op=2:=rcOf fun w1 wr gO g c n k b o l s0 s B T M u Q0 xo an bn cn ps xv yv zv hO HX h hs hl hml hk HIN HRN HCO HM0 o1 o2 a0 a7 b0 b7 c0 cw c7 hbB d0 d1 d2 d3 hg hg1 hlo hbg hbw hbw1 hr8 HMO HPS hp hp2 hk0 hk1 hk2 rb rc ra fa hxw hyw HXV HYV HZV ho=>by
 simp only at ho;subst ho;replace rc:=rc (by omega);have hc7:cn≤7:=by omega
 have hcn:(cn:Int)<8:=by omega
 have HS:Hid (step l s=({ s with pos:=ps+1,regs:=s.regs.set an ((xv+yv) % 65536) },0)):=by
  show _=_;unfold step;rw[HIN.out];simp only;rw[if_neg (by decide),if_neg (by decide),if_neg (by decide),if_neg (by decide),if_neg (by decide),if_neg (by decide),if_neg (by decide),if_neg (by decide),HPS.out,show ((cn:Int) % 8)=(cn:Int) by omega,HXV.out,HYV.out];rfl
 have H:=Lib.hid h;clear h hs;conv=>arg 2;whnf
 go_wp2;exact RWI.mk (B:=B) (p:= .int .i64 ((ps:Int)+1)) rfl rfl rfl rfl rfl rfl rfl rfl (by omega) (RLoop.next (T':=T) (M':=M) HS.out HCO.out HMO.out HM0.out HRN.out (by show ((ps:Int)+1)=((ps+1:Nat):Int);omega) (((H.out.setregE hr8 an (by omega) (by omega)).setpos (ps+1)).later (below_al _ _)))
set_option maxRecDepth 1000000 in
set_option maxHeartbeats 4000000 in
theorem rc_xor:RcStmt fun s x=>x.op=6:=rcOf fun w1 wr gO g c n k b o l s0 s B T M u Q0 xo an bn cn ps xv yv zv hO HX h hs hl hml hk HIN HRN HCO HM0 o1 o2 a0 a7 b0 b7 c0 cw c7 hbB d0 d1 d2 d3 hg hg1 hlo hbg hbw hbw1 hr8 HMO HPS hp hp2 hk0 hk1 hk2 rb rc ra fa hxw hyw HXV HYV HZV ho=>by
 simp only at ho;subst ho;replace rc:=rc (by omega);have hc7:cn≤7:=by omega
 have hcn:(cn:Int)<8:=by omega
 have HS:Hid (step l s=({ s with pos:=ps+1,regs:=s.regs.set an (xv ^^^ yv) },0)):=by
  show _=_;unfold step;rw[HIN.out];simp only;rw[if_neg (by decide),if_neg (by decide),if_neg (by decide),if_neg (by decide),if_neg (by decide),if_neg (by decide),if_neg (by decide),if_neg (by decide),HPS.out,show ((cn:Int) % 8)=(cn:Int) by omega,HXV.out,HYV.out];rfl
 have b1:=i64_xor_word xv yv (by omega) (by omega);have H:=Lib.hid h;clear h hs;conv=>arg 2;whnf
 go_wp2;exact RWI.mk (B:=B) (p:= .int .i64 ((ps:Int)+1)) rfl rfl rfl rfl rfl rfl rfl rfl (by omega) (RLoop.next (T':=T) (M':=M) HS.out HCO.out HMO.out HM0.out HRN.out (by show ((ps:Int)+1)=((ps+1:Nat):Int);omega) (((H.out.setregE hr8 an (by omega) (rfl)).setpos (ps+1)).later (below_al _ _)))
set_option maxRecDepth 1000000 in
set_option maxHeartbeats 4000000 in
theorem rc_stF:RcStmt fun s x=>x.op=9∧x.c=0∧s.mem.length≤rg s x.b:=rcOf fun w1 wr gO g c n k b o l s0 s B T M u Q0 xo an bn cn ps xv yv zv hO HX h hs hl hml hk HIN HRN HCO HM0 o1 o2 a0 a7 b0 b7 c0 cw c7 hbB d0 d1 d2 d3 hg hg1 hlo hbg hbw hbw1 hr8 HMO HPS hp hp2 hk0 hk1 hk2 rb rc ra fa hxw hyw HXV HYV HZV ho=>by
 simp only at ho;obtain⟨ho,hc00,hge⟩:=ho;subst ho;replace rc:=rc (by omega);have hcn:(cn:Int)<8:=by omega
 clear hc00;rw[HXV.out] at hge;have hge2:(s.mem.length:Int)≤(xv:Int):=by omega
 obtain⟨AT,kT,AM,kM,v0,v1,v2,v3,v4,v5,v6,v7,rfl,rfl,e0,e9,e10,f0,r0,r1,r2,r3,r4,r5,r6,r7,y0,y1,y2,y3,y4,y5,y6,y7,y8,y9,y10,z0,z1,z2,z3,z4,z5,z6,z7,z8,z9,z10,hgO,hgne,hgne',hgOw,hgOw1,HW,HV⟩:=ex_open h hO;replace HV:=Lib.hid (HV 3);have HS:Hid (step l s=({ s with pos:=ps+1 },3)):=by
  show _=_;unfold step;rw[HIN.out];simp only;rw[if_neg (by decide),if_pos trivial,HXV.out,if_neg (by omega),HPS.out]
 have HGE:=Lib.hid hge;clear hge;have H:=Lib.hid h;clear h hs;conv=>arg 2;whnf
 go_wp2;exact HX.out _ _ _ 3 (.slice AT s.told.length kT) (.slice AM s.mem.length kM) (HRN.out.symm.trans ((runs_stop (by rw[HS.out];simp)).trans HS.out)) ((XFin.of (B:=B) ((H.out.setend 3).setpos (ps+1)) (HW.out.far (p:=⟨g,0,none⟩) hgne _) rfl HV.out).alloc _) rfl rfl rfl rfl
set_option maxRecDepth 1000000 in
set_option maxHeartbeats 4000000 in
theorem rc_jmpB:RcStmt fun s x=>x.op=10∧8≤x.c:=rcOf fun w1 wr gO g c n k b o l s0 s B T M u Q0 xo an bn cn ps xv yv zv hO HX h hs hl hml hk HIN HRN HCO HM0 o1 o2 a0 a7 b0 b7 c0 cw c7 hbB d0 d1 d2 d3 hg hg1 hlo hbg hbw hbw1 hr8 HMO HPS hp hp2 hk0 hk1 hk2 rb rc ra fa hxw hyw HXV HYV HZV ho=>by
 simp only at ho;obtain⟨ho,hc00⟩:=ho;subst ho;clear rc;have hcn:(8:Int)≤(cn:Int):=by omega
 have HS:Hid (step l s=({ s with pos:=cn },0)):=by
  show _=_;unfold step;rw[HIN.out];simp only;rw[if_neg (by decide),if_neg (by decide),if_pos trivial];rfl
 have H:=Lib.hid h;clear h hs;conv=>arg 2;whnf
 go_wp2;exact RWI.mk (B:=B) (p:= .int .i64 (cn:Int)) rfl rfl rfl rfl rfl rfl rfl rfl (by omega) (RLoop.next (T':=T) (M':=M) HS.out HCO.out HMO.out HM0.out HRN.out (by rfl) ((H.out.setpos cn).later (below_al _ _)))
set_option maxRecDepth 1000000 in
set_option maxHeartbeats 4000000 in
theorem rc_jzB1:RcStmt fun s x=>x.op=11∧8≤x.c∧rg s x.a≠0:=rcOf fun w1 wr gO g c n k b o l s0 s B T M u Q0 xo an bn cn ps xv yv zv hO HX h hs hl hml hk HIN HRN HCO HM0 o1 o2 a0 a7 b0 b7 c0 cw c7 hbB d0 d1 d2 d3 hg hg1 hlo hbg hbw hbw1 hr8 HMO HPS hp hp2 hk0 hk1 hk2 rb rc ra fa hxw hyw HXV HYV HZV ho=>by
 simp only at ho;obtain⟨ho,hc00,hz⟩:=ho;subst ho;clear rc;have hcn:(8:Int)≤(cn:Int):=by omega
 rw[HZV.out] at hz;have hzz:((zv:Int) == 0)=false:=by rw[beq_eq_false_iff_ne];omega
 have HS:Hid (step l s=({ s with pos:=ps+1 },0)):=by
  show _=_;unfold step;rw[HIN.out];simp only;rw[if_neg (by decide),if_neg (by decide),if_neg (by decide),if_pos trivial,HZV.out,if_neg hz,HPS.out]
 have HZ:=Lib.hid hz;clear hz;have H:=Lib.hid h;clear h hs;conv=>arg 2;whnf
 go_wp2;exact RWI.mk (B:=B) (p:= .int .i64 ((ps:Int)+1)) rfl rfl rfl rfl rfl rfl rfl rfl (by omega) (RLoop.next (T':=T) (M':=M) HS.out HCO.out HMO.out HM0.out HRN.out (by show ((ps:Int)+1)=((ps+1:Nat):Int);omega) ((H.out.setpos (ps+1)).later (below_al _ _)))
set_option maxRecDepth 1000000 in
set_option maxHeartbeats 4000000 in
theorem rc_call0B:RcStmt fun s x=>x.op=12∧8≤x.c∧s.back.length≠16:=rcOf fun w1 wr gO g c n k b o l s0 s B T M u Q0 xo an bn cn ps xv yv zv hO HX h hs hl hml hk HIN HRN HCO HM0 o1 o2 a0 a7 b0 b7 c0 cw c7 hbB d0 d1 d2 d3 hg hg1 hlo hbg hbw hbw1 hr8 HMO HPS hp hp2 hk0 hk1 hk2 rb rc ra fa hxw hyw HXV HYV HZV ho=>by
 simp only at ho;obtain⟨ho,hc00,hb⟩:=ho;subst ho;clear rc;have hcn:(8:Int)≤(cn:Int):=by omega
 have hb2:(s.back.length:Int)<16:=by have:=hs.back;omega
 obtain⟨AB,kB,rfl⟩:=own_slice h.ob;have HS:Hid (step l s=({ s with pos:=cn,back:=s.back++ [ps+1] },0)):=by
  show _=_;unfold step;rw[HIN.out];simp only;rw[if_neg (by decide),if_neg (by decide),if_neg (by decide),if_neg (by decide),if_pos trivial,if_neg hb,HPS.out];rfl
 have hU:=Tryz.underlying23;obtain⟨i0,hi0,hz0,hz1,hz2⟩:=info_parts info_int;clear hb;have H:=Lib.hid h;clear h hs;conv=>arg 2;whnf
 go_wp2_with (at_builtin;refine wpList_append_lies _ rfl _ _ _ rfl w1.heap.size 3 i0 _ 1 8 hU hi0 hz0 hz1 hz2 rfl (by omega) (.slice AB s.back.length kB) s.back.length (natsV s.back) rfl ((H.out.ob.alloc _).alloc _) ⟨wr.heap.size+1,0,none⟩ 1 1 [.int .i64 ((ps:Int)+1)] rfl rfl ?new ?one (by omega) ?len ?byt ?bas (wr.heap.size+1+1) (by simp) ?_)
 case new=>exact World.news_of_block (fr:=(0,0)) (B:=wr.heap.size+1) (t:=3) (cs:= #[.int .i64 ((ps:Int)+1)]) (Blk.new' (by simp))
 case one=>(intro u hu;simp at hu;subst hu;rfl)
 case len=>(simp[maxLen];omega)
 case byt=>omega
 case bas=>(have:=H.out.below.size;simp;omega)
 intro gq cap w2 hown1 hgrow hat hlt1;have kj:=(((Blk.new wr 98 #[.int .i64 12, .int .i64 (an:Int), .int .i64 (bn:Int), .int .i64 (cn:Int)]).alloc (.cells #[.int .i64 ((ps:Int)+1)] 3))).grown hgrow (fun e=>by
  have:=(H.out.ob.lt wr.heap.size e.symm).2;omega)
 have j3:=kj.cell 3;simp at j3;clear kj;go_wp2;exact RWI.mk (B:=(.slice (some ⟨gq,0,none⟩) (s.back.length+1) cap)) (p:= .int .i64 (cn:Int)) rfl rfl rfl rfl rfl rfl rfl rfl (by omega) (RLoop.next (T':=T) (M':=M) HS.out HCO.out HMO.out HM0.out HRN.out (by rfl) ((H.out.pushback (x:=ps+1) ((below_al _ _).alloc (by simp) _) hown1 rfl hgrow (hat.imp_right (fun e=>by simp;exact e))).setpos cn))
set_option maxRecDepth 1000000 in
set_option maxHeartbeats 4000000 in
theorem rc_tell0:RcStmt fun s x=>x.op=14∧x.c=0∧s.told.length≠100:=rcOf fun w1 wr gO g c n k b o l s0 s B T M u Q0 xo an bn cn ps xv yv zv hO HX h hs hl hml hk HIN HRN HCO HM0 o1 o2 a0 a7 b0 b7 c0 cw c7 hbB d0 d1 d2 d3 hg hg1 hlo hbg hbw hbw1 hr8 HMO HPS hp hp2 hk0 hk1 hk2 rb rc ra fa hxw hyw HXV HYV HZV ho=>by
 simp only at ho;obtain⟨ho,hc00,hb⟩:=ho;subst ho;replace rc:=rc (by omega);have hcn:(cn:Int)<8:=by omega
 clear hc00;have hb2:(s.told.length:Int)<100:=by have:=hs.told;omega
 obtain⟨AT,kT,rfl⟩:=own_slice h.ot;have e9:=h.blk.cell 9;simp[ocCells,natV] at e9;have f9:=h.blk.frozen 9;have HS:Hid (step l s=({ s with pos:=ps+1,told:=s.told++ [zv] },0)):=by
  show _=_;unfold step;rw[HIN.out];simp only;rw[if_neg (by decide),if_neg (by decide),if_neg (by decide),if_neg (by decide),if_neg (by decide),if_neg (by decide),if_pos trivial,if_neg hb,HPS.out,HZV.out]
 have hU:=Tryz.underlying23;obtain⟨i0,hi0,hz0,hz1,hz2⟩:=info_parts info_int;clear hb;have H:=Lib.hid h;clear h hs;conv=>arg 2;whnf
 have HT:=Lib.hid (And.intro e9 f9);have han:(an:Int)<8:=by omega
 have han0:(0:Int)≤(an:Int):=by omega
 go_wp2;refine wp_region_noPanic ?_;go_region_law
  (first
    | (refine step_append_lies _ (by rfl) _ _ _ (by rfl) w1.heap.size 3 i0 _ 1 8 hU hi0 hz0 hz1 hz2 rfl (by omega) (.slice AT s.told.length kT) s.told.length (natsV s.told) (by rfl) ?own ⟨wr.heap.size+1,0,none⟩ 1 1 [.int .i64 (zv:Int)] (by rfl) (by rfl) ?new ?one (by omega) ?len ?byt ?bas (wr.heap.size+1+1) ?siz ?_
       case own=>exact((H.out.ot.alloc _).alloc _).drew
       case new=>exact World.news_of_block (fr:=(0,0)) (B:=wr.heap.size+1) (t:=3) (cs:= #[.int .i64 (zv:Int)]) (Blk.drew (Blk.new' (by simp)))
       case one=>(intro u hu;simp at hu;subst hu;rfl)
       case len=>(simp[maxLen];omega)
       case byt=>omega
       case bas=>(have:=H.out.below.size;simp;omega)
       case siz=>simp
       intro gq cap w2 hown1 hgrow hat hlt1;have kb:=((H.out.blk.alloc _).alloc _).drew.grown hgrow (fun e=>own_blk_ne H.out.ot H.out.blk (by decide) e.symm);have g3:=kb.cell 9;have g4:=kb.frozen 9;simp[ocCells] at g3;clear kb))
 all_goals
  refine NoPanic.normal ?_;go_wp2;exact RWI.mk (B:=B) (p:= .int .i64 ((ps:Int)+1)) rfl rfl rfl rfl rfl rfl rfl rfl (by omega) (RLoop.next (T':=(.slice (some ⟨gq,0,none⟩) (s.told.length+1) cap)) (M':=M) HS.out HCO.out HMO.out HM0.out HRN.out (by show ((ps:Int)+1)=((ps+1:Nat):Int);omega) ((H.out.pushtold (x:=zv) (Below.drewN' ((below_al _ _).alloc (by simp) _) 1) hown1 rfl hgrow (hat.imp_right (fun e=>by simp;exact e))).setpos (ps+1)))
end Go.Proofs.YtdjamdbamkhblabGreatDoor
