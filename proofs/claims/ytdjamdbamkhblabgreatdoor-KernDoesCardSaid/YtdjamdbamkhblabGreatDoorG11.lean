/- The walk of the kernel's by: no such end; close; the wrong kind. No condition. By an AI agent (xby.py). The walk of the kernel's by: open. No condition. By an AI agent (xby.py). -/
import Derived.Test.YtdjamdbamkhblabGreatDoorG09
import Derived.Deep.QuietTactic
import Derived.Test.YtdjamdbamkhblabGreatDoorG05
namespace Go.Proofs.YtdjamdbamkhblabGreatDoor
open Go.RowKit
set_option linter.unusedVariables false
set_option linter.unusedSimpArgs false
attribute [local go_sem] After.cell
section
variable {B g b4 p:Nat} {a:KA} {k:Krn} {ms:List (Value × Value)} {es:List Value}
set_option maxRecDepth 100000 in
set_option maxHeartbeats 4000000 in
theorem by_none_neg (nm dt:ByteArray) (a1 a2 a3:Int) (w:World) (h:KS B w g a k ms es) (hk:KOk k) (hp:p<4) (ha4:a.a4=some ⟨b4,0,none⟩) (kd:Int) (h5:(kd == 5)=false) (h9:(kd == 9)=false) (h10:(kd == 10)=false) (h11:(kd == 11)=false) (hn:a2<0):
  Calls Tryz.prog 15 #[.agg #[.pointer (some ⟨g,0,none⟩)], .pointer (some ⟨b4,p*2,none⟩), .agg #[.int .i64 kd, .int .i64 a1, .int .i64 a2, .int .i64 a3, .string nm, .string dt]] w (ByPost B w g ms ((k,ansE 6))):=by
 obtain⟨hpl,be,c,hp',hel,HUN,HKO,HES,HPL,HPLC,HLT,HA4⟩:=by_pre w h hk hp ha4;have S0:=ByAt.start h #[.int .i64 kd, .int .i64 a1, .int .i64 a2, .int .i64 a3, .string nm, .string dt];clear h hk ha4;have q1:decide (a2<0)=true:=by simpa using hn
 clear hn;go_enter Tryz.func15,Tryz.ntmps15;go_upto_region 2 with fail
 refine(show ∀ W:World,ByAt B w W g a k ms es #[.int .i64 kd, .int .i64 a1, .int .i64 a2, .int .i64 a3, .string nm, .string dt]→Code.wp _ _ _ _ W from ?_) _ S0;clear S0;intro W0 hS;have HS:=Lib.hid hS;clear hS;obtain⟨c0, -,c2, -, -, -,cl⟩:=HS.out.ac.a3;simp at c0 c2;go_wp2_with fail;go_quiet (fail);have HS1:=Lib.hid (HS.out.below (Below.drewN' (Below.refl _ _) nq));clear HS;clear c0 c2 cl;obtain⟨o0,o1,of0,of1,ol⟩:=HS1.out.ot.a2;simp at o0 o1;go_upto_region 49 with fail
 refine(show ∀ W7:World,ByEnd B w W7 g a k ms es 6 0 noS→Code.wp _ _ _ _ W7 from ?_) _ (HS1.out.code 6);intro W7 h7;obtain⟨o0,o1,o2, -⟩:=h7.ot.a3;obtain⟨r0,r1,r2,f0,f1,f2, -⟩:=h7.rs.a3;have ol:=h7.ot.lt;have rl:=h7.rs.lt;simp at o0 o1 o2 r0 r1 r2;have H7:=Lib.hid h7;clear h7;go_wp2;refine bodyPost_ret (v:= .agg #[.int .i64 6, .int .i64 0, .string noS]) (by simp[results,Tryz.results15,go_sem,r0,r1,r2]) rfl ?_;exact H7.out.fin _ rfl
set_option maxRecDepth 100000 in
set_option maxHeartbeats 4000000 in
theorem by_none_big (nm dt:ByteArray) (a1 a2 a3:Int) (w:World) (h:KS B w g a k ms es) (hk:KOk k) (hp:p<4) (ha4:a.a4=some ⟨b4,0,none⟩) (kd:Int) (h5:(kd == 5)=false) (h9:(kd == 9)=false) (h10:(kd == 10)=false) (h11:(kd == 11)=false) (hn:6≤a2):
  Calls Tryz.prog 15 #[.agg #[.pointer (some ⟨g,0,none⟩)], .pointer (some ⟨b4,p*2,none⟩), .agg #[.int .i64 kd, .int .i64 a1, .int .i64 a2, .int .i64 a3, .string nm, .string dt]] w (ByPost B w g ms ((k,ansE 6))):=by
 obtain⟨hpl,be,c,hp',hel,HUN,HKO,HES,HPL,HPLC,HLT,HA4⟩:=by_pre w h hk hp ha4;have S0:=ByAt.start h #[.int .i64 kd, .int .i64 a1, .int .i64 a2, .int .i64 a3, .string nm, .string dt];clear h hk ha4;have q1:decide (a2<0)=false:=decide_eq_false (by omega);have q2:decide (6≤a2)=true:=by simpa using hn
 clear hn;go_enter Tryz.func15,Tryz.ntmps15;go_upto_region 2 with fail
 refine(show ∀ W:World,ByAt B w W g a k ms es #[.int .i64 kd, .int .i64 a1, .int .i64 a2, .int .i64 a3, .string nm, .string dt]→Code.wp _ _ _ _ W from ?_) _ S0;clear S0;intro W0 hS;have HS:=Lib.hid hS;clear hS;obtain⟨c0, -,c2, -, -, -,cl⟩:=HS.out.ac.a3;simp at c0 c2;go_wp2_with fail;go_quiet (fail);have HS1:=Lib.hid (HS.out.below (Below.drewN' (Below.refl _ _) nq));clear HS;clear c0 c2 cl;obtain⟨o0,o1,of0,of1,ol⟩:=HS1.out.ot.a2;simp at o0 o1;go_upto_region 49 with fail
 refine(show ∀ W7:World,ByEnd B w W7 g a k ms es 6 0 noS→Code.wp _ _ _ _ W7 from ?_) _ (HS1.out.code 6);intro W7 h7;obtain⟨o0,o1,o2, -⟩:=h7.ot.a3;obtain⟨r0,r1,r2,f0,f1,f2, -⟩:=h7.rs.a3;have ol:=h7.ot.lt;have rl:=h7.rs.lt;simp at o0 o1 o2 r0 r1 r2;have H7:=Lib.hid h7;clear h7;go_wp2;refine bodyPost_ret (v:= .agg #[.int .i64 6, .int .i64 0, .string noS]) (by simp[results,Tryz.results15,go_sem,r0,r1,r2]) rfl ?_;exact H7.out.fin _ rfl
set_option maxRecDepth 100000 in
set_option maxHeartbeats 4000000 in
theorem by_none_free (nm dt:ByteArray) (a1 a2 a3:Int) (w:World) (h:KS B w g a k ms es) (hk:KOk k) (hp:p<4) (ha4:a.a4=some ⟨b4,0,none⟩) (kd:Int) (h5:(kd == 5)=false) (h9:(kd == 9)=false) (h10:(kd == 10)=false) (h11:(kd == 11)=false) (i:Nat) (hi:i<6) (ha:a2=(i:Int)) (hn:((k.procs.getD p default).ends.getD i default).kind=0):
  Calls Tryz.prog 15 #[.agg #[.pointer (some ⟨g,0,none⟩)], .pointer (some ⟨b4,p*2,none⟩), .agg #[.int .i64 kd, .int .i64 a1, .int .i64 a2, .int .i64 a3, .string nm, .string dt]] w (ByPost B w g ms ((k,ansE 6))):=by
 obtain⟨hpl,be,c,hp',hel,HUN,HKO,HES,HPL,HPLC,HLT,HA4⟩:=by_pre w h hk hp ha4;have S0:=ByAt.start h #[.int .i64 kd, .int .i64 a1, .int .i64 a2, .int .i64 a3, .string nm, .string dt];clear h hk ha4;subst ha;have q1:decide ((i:Int)<0)=false:=decide_eq_false (by omega);have q2:decide (6≤(i:Int))=false:=decide_eq_false (by omega);have hi6:(i:Int)<6:=by omega
 have HI:Hid (i<k.procs[p].ends.length):=by show _<_;omega
 rw[HUN.out,getD_eq HI.out] at hn;have HNN:=Lib.hid hn;clear hn;go_enter Tryz.func15,Tryz.ntmps15;go_upto_region 2 with fail
 refine(show ∀ W:World,ByAt B w W g a k ms es #[.int .i64 kd, .int .i64 a1, .int .i64 (i:Int), .int .i64 a3, .string nm, .string dt]→Code.wp _ _ _ _ W from ?_) _ S0;clear S0;intro W0 hS;have HS:=Lib.hid hS;clear hS;obtain⟨c0, -,c2, -, -, -,cl⟩:=HS.out.ac.a3;simp at c0 c2;obtain⟨bl,z1,_⟩:=HS.out.ks.place_ hpl hp' HA4.out HES.out hel;obtain⟨el,y0,y1,y2⟩:=HS.out.ks.opnB hpl hp' HES.out HI.out;rw[HNN.out] at y0;go_wp2_with fail;go_quiet (fail);have HS1:=Lib.hid (HS.out.below (Below.drewN' (Below.refl _ _) nq));clear HS;clear c0 c2 cl;clear bl z1 el y0 y1 y2;obtain⟨o0,o1,of0,of1,ol⟩:=HS1.out.ot.a2;simp at o0 o1;go_upto_region 49 with fail
 refine(show ∀ W7:World,ByEnd B w W7 g a k ms es 6 0 noS→Code.wp _ _ _ _ W7 from ?_) _ (HS1.out.code 6);intro W7 h7;obtain⟨o0,o1,o2, -⟩:=h7.ot.a3;obtain⟨r0,r1,r2,f0,f1,f2, -⟩:=h7.rs.a3;have ol:=h7.ot.lt;have rl:=h7.rs.lt;simp at o0 o1 o2 r0 r1 r2;have H7:=Lib.hid h7;clear h7;go_wp2;refine bodyPost_ret (v:= .agg #[.int .i64 6, .int .i64 0, .string noS]) (by simp[results,Tryz.results15,go_sem,r0,r1,r2]) rfl ?_;exact H7.out.fin _ rfl
set_option maxRecDepth 100000 in
set_option maxHeartbeats 4000000 in
theorem by_close (nm dt:ByteArray) (a1 a2 a3:Int) (w:World) (h:KS B w g a k ms es) (hk:KOk k) (hp:p<4) (ha4:a.a4=some ⟨b4,0,none⟩) (i:Nat) (hi:i<6) (ha:a2=(i:Int)) (hn:((k.procs.getD p default).ends.getD i default).kind≠0):
  Calls Tryz.prog 15 #[.agg #[.pointer (some ⟨g,0,none⟩)], .pointer (some ⟨b4,p*2,none⟩), .agg #[.int .i64 6, .int .i64 a1, .int .i64 a2, .int .i64 a3, .string nm, .string dt]] w (ByPost B w g ms ((tidyK (setEnd k p i default),ansN 0))):=by
 obtain⟨hpl,be,c,hp',hel,HUN,HKO,HES,HPL,HPLC,HLT,HA4⟩:=by_pre w h hk hp ha4;have S0:=ByAt.start h #[.int .i64 6, .int .i64 a1, .int .i64 a2, .int .i64 a3, .string nm, .string dt];clear h hk ha4;subst ha;have q1:decide ((i:Int)<0)=false:=decide_eq_false (by omega);have q2:decide (6≤(i:Int))=false:=decide_eq_false (by omega);have hi6:(i:Int)<6:=by omega
 have HI:Hid (i<k.procs[p].ends.length):=by show _<_;omega
 have HEQ:Hid ((k.procs.getD p default).ends.getD i default=k.procs[p].ends[i]'HI.out):=by show _=_;rw[HUN.out,getD_eq HI.out]
 obtain⟨x,hx⟩:∃ x,x=(k.procs.getD p default).ends.getD i default:=⟨_,rfl⟩;have HXE:Hid (k.procs[p].ends[i]'HI.out=x):=by show _=_;rw[hx,HEQ.out]
 rw[←hx] at hn;have q3:(x.kind == 0)=false:=by rw[beq_eq_false_iff_ne];exact hn
 clear hx hn;go_enter Tryz.func15,Tryz.ntmps15;go_upto_region 2 with fail
 refine(show ∀ W:World,ByAt B w W g a k ms es #[.int .i64 6, .int .i64 a1, .int .i64 (i:Int), .int .i64 a3, .string nm, .string dt]→Code.wp _ _ _ _ W from ?_) _ S0;clear S0;intro W0 hS;have HS:=Lib.hid hS;clear hS;obtain⟨c0, -,c2, -, -, -,cl⟩:=HS.out.ac.a3;simp at c0 c2;obtain⟨bl,z1,_⟩:=HS.out.ks.place_ hpl hp' HA4.out HES.out hel;obtain⟨el,y0,y1,y2⟩:=HS.out.ks.opnB hpl hp' HES.out HI.out;rw[HXE.out] at y0 y1 y2;go_wp2_with fail;go_quiet (fail);have HS1:=Lib.hid (HS.out.below (Below.drewN' (Below.refl _ _) nq));clear HS;clear c0 c2 cl bl z1 el y0 y1 y2;go_upto_region 50 with fail
 refine(show ∀ W1:World,ByAt B w W1 g a k ms es _→Code.wp _ _ _ _ W1 from ?_) _ (HS1.out);clear HS1;intro W1 hHS1;have HS1:=Lib.hid hHS1;clear hHS1;obtain⟨c0, -,c2, -, -, -,cl⟩:=HS1.out.ac.a3;simp at c0 c2;obtain⟨bl,z1,_⟩:=HS1.out.ks.place_ hpl hp' HA4.out HES.out hel;obtain⟨el,y0,y1,y2⟩:=HS1.out.ks.opnB hpl hp' HES.out HI.out;rw[HXE.out] at y0 y1 y2;go_wp2_with fail;go_quiet (fail);have HS2:=Lib.hid (HS1.out.below (Below.drewN' (Below.refl _ _) nq));clear HS1;clear c0 c2 cl bl z1 el y0 y1 y2;go_upto_region 52 with fail
 refine(show ∀ W2:World,ByAt B w W2 g a k ms es _→Code.wp _ _ _ _ W2 from ?_) _ (HS2.out);clear HS2;intro W2 hHS2;have HS2:=Lib.hid hHS2;clear hHS2;obtain⟨c0, -, -, -,cl⟩:=HS2.out.ac.a2;simp at c0;obtain⟨bl,z1,_⟩:=HS2.out.ks.place_ hpl hp' HA4.out HES.out hel;obtain⟨el,y0,y1,y2⟩:=HS2.out.ks.opnB hpl hp' HES.out HI.out;have g0:=HS2.out.ks.rdF hpl hp' HES.out (i*3);have g1:=HS2.out.ks.rdF hpl hp' HES.out (i*3+1);have g2:=HS2.out.ks.rdF hpl hp' HES.out (i*3+2);have HN:=Lib.hid (HS2.out.ks.endAll hpl hp' HES.out HI.out (default:Opn));go_upto_region 54 with fail
 refine(show ∀ W3:World,ByAt B w W3 g a (setEnd k p i default) ms es _→Code.wp _ _ _ _ W3 from ?_) _ (HS2.out.next HN.out.1 HN.out.2);clear HN HS2 bl z1 el y0 y1 y2 g0 g1 g2 c0 cl;intro W3 hHS3;have HS3:=Lib.hid hHS3;clear hHS3;obtain⟨x0, -, -, -,xl⟩:=HS3.out.wk.a2;simp at x0;have HT:=Lib.hid (tidy_any W3 HS3.out.ks HKO.out.l2 HKO.out.l3 (by rw[setEnd_eq hpl];simp only[List.length_set];exact HKO.out.l4));go_wp2_with fail;refine HT.out.mono ?_;rintro e w4 ⟨rfl,hK2,hF2⟩;have HS4:=Lib.hid (HS3.out.next hK2 hF2);clear HT hK2 hF2 x0 xl HS3;obtain⟨o0,o1,of0,of1,ol⟩:=HS4.out.ot.a2;simp at o0 o1;go_upto_region 61 with fail
 refine(show ∀ W7:World,ByEnd B w W7 g a (tidyK (setEnd k p i default)) ms es 0 0 noS→Code.wp _ _ _ _ W7 from ?_) _ (HS4.out.nothing);intro W7 h7;obtain⟨o0,o1,o2, -⟩:=h7.ot.a3;obtain⟨r0,r1,r2,f0,f1,f2, -⟩:=h7.rs.a3;have ol:=h7.ot.lt;have rl:=h7.rs.lt;simp at o0 o1 o2 r0 r1 r2;have H7:=Lib.hid h7;clear h7;go_wp2;refine bodyPost_ret (v:= .agg #[.int .i64 0, .int .i64 0, .string noS]) (by simp[results,Tryz.results15,go_sem,r0,r1,r2]) rfl ?_;exact H7.out.fin _ rfl
set_option maxRecDepth 100000 in
set_option maxHeartbeats 4000000 in
theorem by_kind7 (nm dt:ByteArray) (a1 a2 a3:Int) (w:World) (h:KS B w g a k ms es) (hk:KOk k) (hp:p<4) (ha4:a.a4=some ⟨b4,0,none⟩) (i:Nat) (hi:i<6) (ha:a2=(i:Int)) (hn:((k.procs.getD p default).ends.getD i default).kind≠0) (hk3:((k.procs.getD p default).ends.getD i default).kind=3):
  Calls Tryz.prog 15 #[.agg #[.pointer (some ⟨g,0,none⟩)], .pointer (some ⟨b4,p*2,none⟩), .agg #[.int .i64 7, .int .i64 a1, .int .i64 a2, .int .i64 a3, .string nm, .string dt]] w (ByPost B w g ms ((k,ansE 3))):=by
 obtain⟨hpl,be,c,hp',hel,HUN,HKO,HES,HPL,HPLC,HLT,HA4⟩:=by_pre w h hk hp ha4;have S0:=ByAt.start h #[.int .i64 7, .int .i64 a1, .int .i64 a2, .int .i64 a3, .string nm, .string dt];clear h hk ha4;subst ha;have q1:decide ((i:Int)<0)=false:=decide_eq_false (by omega);have q2:decide (6≤(i:Int))=false:=decide_eq_false (by omega);have hi6:(i:Int)<6:=by omega
 have HI:Hid (i<k.procs[p].ends.length):=by show _<_;omega
 have HEQ:Hid ((k.procs.getD p default).ends.getD i default=k.procs[p].ends[i]'HI.out):=by show _=_;rw[HUN.out,getD_eq HI.out]
 obtain⟨x,hx⟩:∃ x,x=(k.procs.getD p default).ends.getD i default:=⟨_,rfl⟩;have HXE:Hid (k.procs[p].ends[i]'HI.out=x):=by show _=_;rw[hx,HEQ.out]
 rw[←hx] at hn;rw[←hx] at hk3;have q4:(x.kind == 3)=true:=by rw[hk3];rfl
 clear hk3;have q3:(x.kind == 0)=false:=by rw[beq_eq_false_iff_ne];exact hn
 clear hx hn;go_enter Tryz.func15,Tryz.ntmps15;go_upto_region 2 with fail
 refine(show ∀ W:World,ByAt B w W g a k ms es #[.int .i64 7, .int .i64 a1, .int .i64 (i:Int), .int .i64 a3, .string nm, .string dt]→Code.wp _ _ _ _ W from ?_) _ S0;clear S0;intro W0 hS;have HS:=Lib.hid hS;clear hS;obtain⟨c0, -,c2, -, -, -,cl⟩:=HS.out.ac.a3;simp at c0 c2;obtain⟨bl,z1,_⟩:=HS.out.ks.place_ hpl hp' HA4.out HES.out hel;obtain⟨el,y0,y1,y2⟩:=HS.out.ks.opnB hpl hp' HES.out HI.out;rw[HXE.out] at y0 y1 y2;go_wp2_with fail;go_quiet (fail);have HS1:=Lib.hid (HS.out.below (Below.drewN' (Below.refl _ _) nq));clear HS;clear c0 c2 cl bl z1 el y0 y1 y2;go_upto_region 50 with fail
 refine(show ∀ W1:World,ByAt B w W1 g a k ms es _→Code.wp _ _ _ _ W1 from ?_) _ (HS1.out);clear HS1;intro W1 hHS1;have HS1:=Lib.hid hHS1;clear hHS1;obtain⟨c0, -,c2, -, -, -,cl⟩:=HS1.out.ac.a3;simp at c0 c2;obtain⟨bl,z1,_⟩:=HS1.out.ks.place_ hpl hp' HA4.out HES.out hel;obtain⟨el,y0,y1,y2⟩:=HS1.out.ks.opnB hpl hp' HES.out HI.out;rw[HXE.out] at y0 y1 y2;go_wp2_with fail;go_quiet (fail);have HS2:=Lib.hid (HS1.out.below (Below.drewN' (Below.refl _ _) nq));clear HS1;clear c0 c2 cl bl z1 el y0 y1 y2;go_upto_region 52 with fail
 refine(show ∀ W2:World,ByAt B w W2 g a k ms es _→Code.wp _ _ _ _ W2 from ?_) _ (HS2.out);clear HS2;intro W2 hHS2;have HS2:=Lib.hid hHS2;clear hHS2;obtain⟨c0, -, -, -,cl⟩:=HS2.out.ac.a2;simp at c0;obtain⟨bl,z1,_⟩:=HS2.out.ks.place_ hpl hp' HA4.out HES.out hel;obtain⟨el,y0,y1,y2⟩:=HS2.out.ks.opnB hpl hp' HES.out HI.out;rw[HXE.out] at y0 y1 y2;obtain⟨o0,o1,of0,of1,ol⟩:=HS2.out.ot.a2;simp at o0 o1;go_upto_region 61 with fail
 refine(show ∀ W7:World,ByEnd B w W7 g a k ms es 3 0 noS→Code.wp _ _ _ _ W7 from ?_) _ (HS2.out.code 3);intro W7 h7;obtain⟨o0,o1,o2, -⟩:=h7.ot.a3;obtain⟨r0,r1,r2,f0,f1,f2, -⟩:=h7.rs.a3;have ol:=h7.ot.lt;have rl:=h7.rs.lt;simp at o0 o1 o2 r0 r1 r2;have H7:=Lib.hid h7;clear h7;go_wp2;refine bodyPost_ret (v:= .agg #[.int .i64 3, .int .i64 0, .string noS]) (by simp[results,Tryz.results15,go_sem,r0,r1,r2]) rfl ?_;exact H7.out.fin _ rfl
set_option maxRecDepth 100000 in
set_option maxHeartbeats 4000000 in
theorem by_kind8 (nm dt:ByteArray) (a1 a2 a3:Int) (w:World) (h:KS B w g a k ms es) (hk:KOk k) (hp:p<4) (ha4:a.a4=some ⟨b4,0,none⟩) (i:Nat) (hi:i<6) (ha:a2=(i:Int)) (hn:((k.procs.getD p default).ends.getD i default).kind≠0) (hk3:((k.procs.getD p default).ends.getD i default).kind=2):
  Calls Tryz.prog 15 #[.agg #[.pointer (some ⟨g,0,none⟩)], .pointer (some ⟨b4,p*2,none⟩), .agg #[.int .i64 8, .int .i64 a1, .int .i64 a2, .int .i64 a3, .string nm, .string dt]] w (ByPost B w g ms ((k,ansE 3))):=by
 obtain⟨hpl,be,c,hp',hel,HUN,HKO,HES,HPL,HPLC,HLT,HA4⟩:=by_pre w h hk hp ha4;have S0:=ByAt.start h #[.int .i64 8, .int .i64 a1, .int .i64 a2, .int .i64 a3, .string nm, .string dt];clear h hk ha4;subst ha;have q1:decide ((i:Int)<0)=false:=decide_eq_false (by omega);have q2:decide (6≤(i:Int))=false:=decide_eq_false (by omega);have hi6:(i:Int)<6:=by omega
 have HI:Hid (i<k.procs[p].ends.length):=by show _<_;omega
 have HEQ:Hid ((k.procs.getD p default).ends.getD i default=k.procs[p].ends[i]'HI.out):=by show _=_;rw[HUN.out,getD_eq HI.out]
 obtain⟨x,hx⟩:∃ x,x=(k.procs.getD p default).ends.getD i default:=⟨_,rfl⟩;have HXE:Hid (k.procs[p].ends[i]'HI.out=x):=by show _=_;rw[hx,HEQ.out]
 rw[←hx] at hn;rw[←hx] at hk3;have q4:(x.kind == 2)=true:=by rw[hk3];rfl
 clear hk3;have q3:(x.kind == 0)=false:=by rw[beq_eq_false_iff_ne];exact hn
 clear hx hn;go_enter Tryz.func15,Tryz.ntmps15;go_upto_region 2 with fail
 refine(show ∀ W:World,ByAt B w W g a k ms es #[.int .i64 8, .int .i64 a1, .int .i64 (i:Int), .int .i64 a3, .string nm, .string dt]→Code.wp _ _ _ _ W from ?_) _ S0;clear S0;intro W0 hS;have HS:=Lib.hid hS;clear hS;obtain⟨c0, -,c2, -, -, -,cl⟩:=HS.out.ac.a3;simp at c0 c2;obtain⟨bl,z1,_⟩:=HS.out.ks.place_ hpl hp' HA4.out HES.out hel;obtain⟨el,y0,y1,y2⟩:=HS.out.ks.opnB hpl hp' HES.out HI.out;rw[HXE.out] at y0 y1 y2;go_wp2_with fail;go_quiet (fail);have HS1:=Lib.hid (HS.out.below (Below.drewN' (Below.refl _ _) nq));clear HS;clear c0 c2 cl bl z1 el y0 y1 y2;go_upto_region 50 with fail
 refine(show ∀ W1:World,ByAt B w W1 g a k ms es _→Code.wp _ _ _ _ W1 from ?_) _ (HS1.out);clear HS1;intro W1 hHS1;have HS1:=Lib.hid hHS1;clear hHS1;obtain⟨c0, -,c2, -, -, -,cl⟩:=HS1.out.ac.a3;simp at c0 c2;obtain⟨bl,z1,_⟩:=HS1.out.ks.place_ hpl hp' HA4.out HES.out hel;obtain⟨el,y0,y1,y2⟩:=HS1.out.ks.opnB hpl hp' HES.out HI.out;rw[HXE.out] at y0 y1 y2;go_wp2_with fail;go_quiet (fail);have HS2:=Lib.hid (HS1.out.below (Below.drewN' (Below.refl _ _) nq));clear HS1;clear c0 c2 cl bl z1 el y0 y1 y2;go_upto_region 52 with fail
 refine(show ∀ W2:World,ByAt B w W2 g a k ms es _→Code.wp _ _ _ _ W2 from ?_) _ (HS2.out);clear HS2;intro W2 hHS2;have HS2:=Lib.hid hHS2;clear hHS2;obtain⟨c0, -, -, -,cl⟩:=HS2.out.ac.a2;simp at c0;obtain⟨bl,z1,_⟩:=HS2.out.ks.place_ hpl hp' HA4.out HES.out hel;obtain⟨el,y0,y1,y2⟩:=HS2.out.ks.opnB hpl hp' HES.out HI.out;rw[HXE.out] at y0 y1 y2;obtain⟨o0,o1,of0,of1,ol⟩:=HS2.out.ot.a2;simp at o0 o1;go_upto_region 61 with fail
 refine(show ∀ W7:World,ByEnd B w W7 g a k ms es 3 0 noS→Code.wp _ _ _ _ W7 from ?_) _ (HS2.out.code 3);intro W7 h7;obtain⟨o0,o1,o2, -⟩:=h7.ot.a3;obtain⟨r0,r1,r2,f0,f1,f2, -⟩:=h7.rs.a3;have ol:=h7.ot.lt;have rl:=h7.rs.lt;simp at o0 o1 o2 r0 r1 r2;have H7:=Lib.hid h7;clear h7;go_wp2;refine bodyPost_ret (v:= .agg #[.int .i64 3, .int .i64 0, .string noS]) (by simp[results,Tryz.results15,go_sem,r0,r1,r2]) rfl ?_;exact H7.out.fin _ rfl
end
end Go.Proofs.YtdjamdbamkhblabGreatDoor
namespace Go.Proofs.YtdjamdbamkhblabGreatDoor
open Go.RowKit
set_option linter.unusedVariables false
set_option linter.unusedSimpArgs false
attribute [local go_sem] After.cell
section
variable {B g b4 p:Nat} {a:KA} {k:Krn} {ms:List (Value × Value)} {es:List Value}
set_option maxRecDepth 100000 in
set_option maxHeartbeats 4000000 in
theorem by_open (nm dt:ByteArray) (a1 a2 a3:Int) (w:World) (h:KS B w g a k ms es) (hk:KOk k) (hp:p<4) (ha4:a.a4=some ⟨b4,0,none⟩) (hs:nm.size≤maxLen):
  Calls Tryz.prog 15 #[.agg #[.pointer (some ⟨g,0,none⟩)], .pointer (some ⟨b4,p*2,none⟩), .agg #[.int .i64 5, .int .i64 a1, .int .i64 a2, .int .i64 a3, .string nm, .string dt]] w (ByPost B w g ms (openK k p nm)):=by
 obtain⟨hpl,be,c,hp',hel,HUN,HKO,HES,HPL,HPLC,HLT,HA4⟩:=by_pre w h hk hp ha4;have S0:=ByAt.start h #[.int .i64 5, .int .i64 a1, .int .i64 a2, .int .i64 a3, .string nm, .string dt];clear h hk ha4;have HNM:Hid (∀ W:World,Calls Tryz.prog 31 #[.string nm] W fun e w'=>e= .returned (.bool (nameOk nm))∧Below W.heap.size W w'):=fun W=>Name_any nm W hs
 have HFIND:Hid (∀ W:World,KS B W g a k ms es→Calls Tryz.prog 13 #[.agg #[.pointer (some ⟨g,0,none⟩)], .string nm] W fun e w'=>e= .returned (.int .i64 (findK k nm))∧Below W.heap.size W w'):=fun W hW=>find_any nm W hW HKO.out.l2
 clear hs;go_enter Tryz.func15,Tryz.ntmps15;go_upto_region 2 with fail
 refine(show ∀ W:World,ByAt B w W g a k ms es #[.int .i64 5, .int .i64 a1, .int .i64 a2, .int .i64 a3, .string nm, .string dt]→Code.wp _ _ _ _ W from ?_) _ S0;clear S0;intro W0 hS;have HS:=Lib.hid hS;clear hS;obtain⟨x0, -, -, -,xl⟩:=HS.out.wk.a2;obtain⟨c0, -, -, -,c4, -, -, -, -, -,cl⟩:=HS.out.ac.a5;simp at x0 c0 c4;go_wp2_with fail;refine(HFIND.out W0 HS.out.ks).mono ?_;rintro e w1 ⟨rfl,hb⟩;have HS1:=Lib.hid (HS.out.below hb);clear hb HS;clear x0 xl c0 c4 cl;clear HFIND;go_wp2_with fail;refine(HPLC.out w1 HS1.out.ks).mono ?_;rintro e w2 ⟨rfl,hb⟩;have HS2:=Lib.hid (HS1.out.below hb);clear hb HS1;clear HPLC;have c4:=HS2.out.ac.cell 4;have cl:=HS2.out.ac.lt;simp at c4;go_wp2_with fail;refine(HNM.out w2).mono ?_;rintro e w3 ⟨rfl,hb⟩;have HS3:=Lib.hid (HS2.out.below hb);clear hb HS2;clear c4 cl;clear HNM;have HV:Hid (openK k p nm=if nameOk nm then (if findK k nm<0 then (k,ansE 6) else if freeE k.procs[p].ends<0 then (k,ansE 8) else (setEnd k p (freeE k.procs[p].ends).toNat ⟨1,findK k nm,0⟩,ansN (freeE k.procs[p].ends).toNat)) else (k,ansE 4)):=by
  show _=_;unfold openK;rw[HUN.out]
 cases hnm:nameOk nm with
 | false=>
   rw[hnm] at HV;clear hnm;obtain⟨o0,o1,of0,of1,ol⟩:=HS3.out.ot.a2;simp at o0 o1;go_upto_region 13 with fail
   refine(show ∀ W7:World,ByEnd B w W7 g a k ms es 4 0 noS→Code.wp _ _ _ _ W7 from ?_) _ (HS3.out.code 4);intro W7 h7;obtain⟨o0,o1,o2, -⟩:=h7.ot.a3;obtain⟨r0,r1,r2,f0,f1,f2, -⟩:=h7.rs.a3;have ol:=h7.ot.lt;have rl:=h7.rs.lt;simp at o0 o1 o2 r0 r1 r2;have H7:=Lib.hid h7;clear h7;go_wp2;refine bodyPost_ret (v:= .agg #[.int .i64 4, .int .i64 0, .string noS]) (by simp[results,Tryz.results15,go_sem,r0,r1,r2]) rfl ?_;exact H7.out.fin _ HV.out
 | true=>
   rw[hnm,if_pos rfl] at HV;clear hnm;obtain⟨fi,hfi⟩:∃ fi,fi=findK k nm:=⟨_,rfl⟩;obtain⟨fe,hfe⟩:∃ fe,fe=freeE k.procs[p].ends:=⟨_,rfl⟩;have HFI:=Lib.hid hfi;have HFE:=Lib.hid hfe;rw[←hfi, ←hfe] at HV;rw[←hfi, ←hfe];clear hfi hfe;by_cases h6:fi<0
   ·rw[if_pos h6] at HV
    obtain⟨o0,o1,of0,of1,ol⟩:=HS3.out.ot.a2;simp at o0 o1;go_upto_region 13 with fail
    refine(show ∀ W7:World,ByEnd B w W7 g a k ms es 6 0 noS→Code.wp _ _ _ _ W7 from ?_) _ (HS3.out.code 6);intro W7 h7;obtain⟨o0,o1,o2, -⟩:=h7.ot.a3;obtain⟨r0,r1,r2,f0,f1,f2, -⟩:=h7.rs.a3;have ol:=h7.ot.lt;have rl:=h7.rs.lt;simp at o0 o1 o2 r0 r1 r2;have H7:=Lib.hid h7;clear h7;go_wp2;refine bodyPost_ret (v:= .agg #[.int .i64 6, .int .i64 0, .string noS]) (by simp[results,Tryz.results15,go_sem,r0,r1,r2]) rfl ?_;exact H7.out.fin _ HV.out
   ·rw[if_neg h6] at HV
    by_cases h8:fe<0
    ·rw[if_pos h8] at HV
     obtain⟨o0,o1,of0,of1,ol⟩:=HS3.out.ot.a2;simp at o0 o1;go_upto_region 13 with fail
     refine(show ∀ W7:World,ByEnd B w W7 g a k ms es 8 0 noS→Code.wp _ _ _ _ W7 from ?_) _ (HS3.out.code 8);intro W7 h7;obtain⟨o0,o1,o2, -⟩:=h7.ot.a3;obtain⟨r0,r1,r2,f0,f1,f2, -⟩:=h7.rs.a3;have ol:=h7.ot.lt;have rl:=h7.rs.lt;simp at o0 o1 o2 r0 r1 r2;have H7:=Lib.hid h7;clear h7;go_wp2;refine bodyPost_ret (v:= .agg #[.int .i64 8, .int .i64 0, .string noS]) (by simp[results,Tryz.results15,go_sem,r0,r1,r2]) rfl ?_;exact H7.out.fin _ HV.out
    ·rw[if_neg h8] at HV
     obtain⟨i,hi,he,hi0⟩:=freeE_pos (l:=k.procs[p].ends) (by rw[←HFE.out];omega);have e1:fe=(i:Int):=HFE.out.trans he;subst e1;rw[Int.toNat_natCast] at HV;have hi6:i<6:=by omega
     have HI:=Lib.hid hi;clear h8 he hi0 hi;obtain⟨bl,z1⟩:=HPL.out _ HS3.out.ks;obtain⟨el,y0,y1,y2⟩:=HS3.out.ks.opnB hpl hp' HES.out HI.out;have g0:=HS3.out.ks.rdF hpl hp' HES.out (i*3);have g1:=HS3.out.ks.rdF hpl hp' HES.out (i*3+1);have g2:=HS3.out.ks.rdF hpl hp' HES.out (i*3+2);have HN:=Lib.hid (HS3.out.ks.endAll hpl hp' HES.out HI.out (⟨1,fi,0⟩:Opn));go_upto_region 6 with fail
     refine(show ∀ W4:World,ByAt B w W4 g a (setEnd k p i ⟨1,fi,0⟩) ms es _→Code.wp _ _ _ _ W4 from ?_) _ (HS3.out.next HN.out.1 HN.out.2);clear HN;intro W4 hS4;have HS4:=Lib.hid hS4;clear hS4;obtain⟨o0,o1,of0,of1,ol⟩:=HS4.out.ot.a2;simp at o0 o1;go_upto_region 13 with fail
     refine(show ∀ W7:World,ByEnd B w W7 g a (setEnd k p i ⟨1,fi,0⟩) ms es 0 i noS→Code.wp _ _ _ _ W7 from ?_) _ (HS4.out.num i);intro W7 h7;obtain⟨o0,o1,o2, -⟩:=h7.ot.a3;obtain⟨r0,r1,r2,f0,f1,f2, -⟩:=h7.rs.a3;have ol:=h7.ot.lt;have rl:=h7.rs.lt;simp at o0 o1 o2 r0 r1 r2;have H7:=Lib.hid h7;clear h7;go_wp2;refine bodyPost_ret (v:= .agg #[.int .i64 0, .int .i64 i, .string noS]) (by simp[results,Tryz.results15,go_sem,r0,r1,r2]) rfl ?_;exact H7.out.fin _ HV.out
end
end Go.Proofs.YtdjamdbamkhblabGreatDoor
