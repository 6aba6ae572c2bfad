/- The walk of the kernel's by: read, write; and all. Condition: the listed table, the run's contract (RunC). By an AI agent (xby.py). The walks of the reader's take and number: what they return, and what is left. No condition. Decoding, step by step: how what is left of the bytes makes up the whole. No condition. -/
import Derived.Test.YtdjamdbamkhblacGreatDoorG11
import Derived.Test.YtdjamdbamkhblacGreatDoorG18
set_option maxHeartbeats 4000000
set_option maxRecDepth 100000
namespace Go.Proofs.YtdjamdbamkhblacGreatDoor
open Go.RowKit
set_option linter.unusedVariables false
set_option linter.unusedSimpArgs false
attribute [local go_sem] After.cell
theorem Tab.fr {B:Nat} {w w':World} (h:Tab w) (hf:Fr B w w') (hB:0<B):Tab w':=
 ⟨Nat.lt_of_lt_of_le h.1 hf.low'.size,fun q hq=>(hf.low'.cell (p:=⟨_,q,none⟩) hB).trans (h.2 q hq)⟩
theorem Kzo {s:ByteArray} {a b:Nat} (h:b≤s.size):(cutS s a b).size=b - a:=by
 unfold cutS;have e:s.data.toList.length=s.size:=by simp
 show ((s.data.toList.take b).drop a).toArray.size=_;rw[List.size_toArray,List.length_drop,List.length_take,e];omega
theorem Rzt (k:Krn) (p i:Nat) (many:Int):(Bzu k p i many).2.n=((Bzu k p i many).2.data.size:Int):=by
 unfold Bzu;simp only;split
 ·rfl
 ·split
  ·split
   ·rfl
   ·simp only
    rw[Kzo (by omega)];omega
  ·split
   ·split
    ·rfl
    ·rfl
   ·split
    ·rfl
    ·simp only
     rw[Kzo (by omega)];omega
theorem Qz1 (k:Krn) (p i:Nat) (s:ByteArray):(Azh k p i s).2.data=noS:=by
 unfold Azh;simp only;split
 ·rfl
 ·split
  ·split
   ·rfl
   ·split
    ·rfl
    ·rfl
  ·split
   ·split
    ·rfl
    ·rfl
   ·split
    ·rfl
    ·rfl
section
variable {B g b4 p:Nat} {a:KA} {k:Krn} {ms:List (Value × Value)} {es:List Value}
theorem Qzw (nm dt:ByteArray) (a1 a2 a3:Int) (w:World) (h:KS B w g a k ms es) (hk:KOk k) (hp:p<4) (ha4:a.a4=some ⟨b4,0,none⟩) (i:Nat) (hi:i<6) (ha:a2=(i:Int)) (hn:((k.procs.getD p default).ends.getD i default).kind≠0) (HR:RunC 96) (ht:Tab w) (hgB:0<B) (hk3:((k.procs.getD p default).ends.getD i default).kind≠3):
  Calls Tryz.prog 19 #[.agg #[.pointer (some ⟨g,0,none⟩)], .pointer (some ⟨b4,p*2,none⟩), .agg #[.int .i64 7, .int .i64 a1, .int .i64 a2, .int .i64 a3, .string nm, .string dt]] w (Cz1 B w g ms (Bzu k p i a3)):=by
 obtain⟨hpl,be,c,hp',hel,HUN,HKO,HES,HPL,HPLC,HLT,HA4⟩:=Dzk w h hk hp ha4;have S0:=ByAt.start h #[.int .i64 7, .int .i64 a1, .int .i64 a2, .int .i64 a3, .string nm, .string dt];clear h hk ha4;subst ha;have q1:decide ((i:Int)<0)=false:=decide_eq_false (by omega);have q2:decide (6≤(i:Int))=false:=decide_eq_false (by omega);have hi6:(i:Int)<6:=by omega
 have HI:Hid (i<k.procs[p].ends.length):=by show _<_;omega
 have HEQ:Hid ((k.procs.getD p default).ends.getD i default=k.procs[p].ends[i]'HI.out):=by show _=_;rw[HUN.out,Az3 HI.out]
 obtain⟨x,hx⟩:∃ x,x=(k.procs.getD p default).ends.getD i default:=⟨_,rfl⟩;have HXE:Hid (k.procs[p].ends[i]'HI.out=x):=by show _=_;rw[hx,HEQ.out]
 rw[←hx] at hn;rw[←hx] at hk3;have q4:(x.kind == 3)=false:=by rw[beq_eq_false_iff_ne];exact hk3
 have HN3:Hid ((k.procs[p].ends[i]'HI.out).kind≠3):=by show _≠_;rw[HXE.out];exact hk3
 have HN0:Hid ((k.procs[p].ends[i]'HI.out).kind≠0):=by show _≠_;rw[HXE.out];exact hn
 have HTB:=Lib.hid ht;clear hk3 ht;have q3:(x.kind == 0)=false:=by rw[beq_eq_false_iff_ne];exact hn
 clear hx hn;go_enter Tryz.func19,Tryz.ntmps19;go_upto_region 2 with fail
 refine(show ∀ W:World,ByAt B w W g a k ms es #[.int .i64 7, .int .i64 a1, .int .i64 (i:Int), .int .i64 a3, .string nm, .string dt]→Code.wp _ _ _ _ W from ?_) _ S0;clear S0;intro W0 hS;have HS:=Lib.hid hS;clear hS;obtain⟨c0, -,c2, -, -, -,cl⟩:=HS.out.ac.a3;simp at c0 c2;obtain⟨bl,z1,_⟩:=HS.out.ks.place_ hpl hp' HA4.out HES.out hel;obtain⟨el,y0,y1,y2⟩:=HS.out.ks.opnB hpl hp' HES.out HI.out;rw[HXE.out] at y0 y1 y2;go_wp2_with fail;go_quiet (fail);have HS1:=Lib.hid (HS.out.below (Below.drewN' (Below.refl _ _) nq));clear HS;clear c0 c2 cl bl z1 el y0 y1 y2;go_upto_region 50 with fail
 refine(show ∀ W1:World,ByAt B w W1 g a k ms es _→Code.wp _ _ _ _ W1 from ?_) _ (HS1.out);clear HS1;intro W1 hHS1;have HS1:=Lib.hid hHS1;clear hHS1;obtain⟨c0, -,c2, -, -, -,cl⟩:=HS1.out.ac.a3;simp at c0 c2;obtain⟨bl,z1,_⟩:=HS1.out.ks.place_ hpl hp' HA4.out HES.out hel;obtain⟨el,y0,y1,y2⟩:=HS1.out.ks.opnB hpl hp' HES.out HI.out;rw[HXE.out] at y0 y1 y2;go_wp2_with fail;go_quiet (fail);have HS2:=Lib.hid (HS1.out.below (Below.drewN' (Below.refl _ _) nq));clear HS1;clear c0 c2 cl bl z1 el y0 y1 y2;go_upto_region 52 with fail
 refine(show ∀ W2:World,ByAt B w W2 g a k ms es _→Code.wp _ _ _ _ W2 from ?_) _ (HS2.out);clear HS2;intro W2 hHS2;have HS2:=Lib.hid hHS2;clear hHS2;obtain⟨x0, -, -, -,xl⟩:=HS2.out.wk.a2;obtain⟨c0, -, -,c3, -, -, -, -,cl⟩:=HS2.out.ac.a4;simp at x0 c0 c3;obtain⟨bl,z1,_⟩:=HS2.out.ks.place_ hpl hp' HA4.out HES.out hel;obtain⟨el,y0,y1,y2⟩:=HS2.out.ks.opnB hpl hp' HES.out HI.out;rw[HXE.out] at y0 y1 y2;have HC:=Lib.hid (Pzq HR a3 W2 HS2.out.ks HKO.out (HTB.out.fr HS2.out.fr hgB) hpl hp' HES.out HI.out HN0.out HN3.out);have HNE:=Lib.hid (Rzt k p i a3);obtain⟨r,hr⟩:∃ r,r=Bzu k p i a3:=⟨_,rfl⟩;rw[←hr] at HC HNE;have HRE:=Lib.hid hr;clear hr;go_wp2_with fail;refine HC.out.mono ?_;rintro e w4 ⟨rfl,hF,a',hK⟩;have HS4:=Lib.hid (HS2.out.next hK hF);clear HC hK hF HS2 x0 xl c0 c3 cl bl z1 el y0 y1 y2;obtain⟨o0,o1,of0,of1,ol⟩:=HS4.out.ot.a2;simp at o0 o1;obtain⟨-, -,o2, -, -,of2, -⟩:=HS4.out.ot.a3;simp at o2;obtain⟨r1,r2⟩:=r;obtain⟨rc,rn,rd⟩:=r2;simp only at HNE;go_upto_region 60 with fail
 refine(show ∀ W6:World,ByEnd B w W6 g a' r1 ms es rc 0 rd→Code.wp _ _ _ _ W6 from ?_) _ ((HS4.out.nothing.set_ 2 (.string rd) (v0:=0) (v1:=0) (t:=rd) rfl).set_ 0 (.int .i64 rc) (v0:=rc) (v1:=0) (t:=rd) rfl);clear HS4 ol o0 o1 of0 of1 o2 of2;intro W6 h6;obtain⟨o0,o1,o2, -,of1, -,ol⟩:=h6.ot.a3;simp at o0 o1 o2;have H6:=Lib.hid h6;clear h6;go_upto_region 61 with fail
 refine(show ∀ W7:World,ByEnd B w W7 g a' r1 ms es rc (rd.size:Int) rd→Code.wp _ _ _ _ W7 from ?_) _ (H6.out.set_ 1 (.int .i64 (rd.size:Int)) (v0:=rc) (v1:=(rd.size:Int)) (t:=rd) rfl);intro W7 h7;obtain⟨o0,o1,o2, -⟩:=h7.ot.a3;obtain⟨r0,r1,r2,f0,f1,f2, -⟩:=h7.rs.a3;have ol:=h7.ot.lt;have rl:=h7.rs.lt;simp at o0 o1 o2 r0 r1 r2;have H7:=Lib.hid h7;clear h7;go_wp2;refine bodyPost_ret (v:= .agg #[.int .i64 rc, .int .i64 (rd.size:Int), .string rd]) (by simp[results,Tryz.results19,go_sem,r0,r1,r2]) rfl ?_;exact H7.out.fin _ (HRE.out.symm.trans (by rw[HNE.out]))
theorem Ozw (nm dt:ByteArray) (a1 a2 a3:Int) (w:World) (h:KS B w g a k ms es) (hk:KOk k) (hp:p<4) (ha4:a.a4=some ⟨b4,0,none⟩) (i:Nat) (hi:i<6) (ha:a2=(i:Int)) (hn:((k.procs.getD p default).ends.getD i default).kind≠0) (HR:RunC 96) (ht:Tab w) (hgB:0<B) (hsz:dt.size≤maxLen) (hk3:((k.procs.getD p default).ends.getD i default).kind≠2):
  Calls Tryz.prog 19 #[.agg #[.pointer (some ⟨g,0,none⟩)], .pointer (some ⟨b4,p*2,none⟩), .agg #[.int .i64 8, .int .i64 a1, .int .i64 a2, .int .i64 a3, .string nm, .string dt]] w (Cz1 B w g ms (Azh k p i dt)):=by
 obtain⟨hpl,be,c,hp',hel,HUN,HKO,HES,HPL,HPLC,HLT,HA4⟩:=Dzk w h hk hp ha4;have S0:=ByAt.start h #[.int .i64 8, .int .i64 a1, .int .i64 a2, .int .i64 a3, .string nm, .string dt];clear h hk ha4;subst ha;have q1:decide ((i:Int)<0)=false:=decide_eq_false (by omega);have q2:decide (6≤(i:Int))=false:=decide_eq_false (by omega);have hi6:(i:Int)<6:=by omega
 have HI:Hid (i<k.procs[p].ends.length):=by show _<_;omega
 have HEQ:Hid ((k.procs.getD p default).ends.getD i default=k.procs[p].ends[i]'HI.out):=by show _=_;rw[HUN.out,Az3 HI.out]
 obtain⟨x,hx⟩:∃ x,x=(k.procs.getD p default).ends.getD i default:=⟨_,rfl⟩;have HXE:Hid (k.procs[p].ends[i]'HI.out=x):=by show _=_;rw[hx,HEQ.out]
 rw[←hx] at hn;rw[←hx] at hk3;have q4:(x.kind == 2)=false:=by rw[beq_eq_false_iff_ne];exact hk3
 have HN3:Hid ((k.procs[p].ends[i]'HI.out).kind≠2):=by show _≠_;rw[HXE.out];exact hk3
 have HN0:Hid ((k.procs[p].ends[i]'HI.out).kind≠0):=by show _≠_;rw[HXE.out];exact hn
 have HTB:=Lib.hid ht;have HSZ:=Lib.hid hsz;clear hk3 ht hsz;have q3:(x.kind == 0)=false:=by rw[beq_eq_false_iff_ne];exact hn
 clear hx hn;go_enter Tryz.func19,Tryz.ntmps19;go_upto_region 2 with fail
 refine(show ∀ W:World,ByAt B w W g a k ms es #[.int .i64 8, .int .i64 a1, .int .i64 (i:Int), .int .i64 a3, .string nm, .string dt]→Code.wp _ _ _ _ W from ?_) _ S0;clear S0;intro W0 hS;have HS:=Lib.hid hS;clear hS;obtain⟨c0, -,c2, -, -, -,cl⟩:=HS.out.ac.a3;simp at c0 c2;obtain⟨bl,z1,_⟩:=HS.out.ks.place_ hpl hp' HA4.out HES.out hel;obtain⟨el,y0,y1,y2⟩:=HS.out.ks.opnB hpl hp' HES.out HI.out;rw[HXE.out] at y0 y1 y2;go_wp2_with fail;go_quiet (fail);have HS1:=Lib.hid (HS.out.below (Below.drewN' (Below.refl _ _) nq));clear HS;clear c0 c2 cl bl z1 el y0 y1 y2;go_upto_region 50 with fail
 refine(show ∀ W1:World,ByAt B w W1 g a k ms es _→Code.wp _ _ _ _ W1 from ?_) _ (HS1.out);clear HS1;intro W1 hHS1;have HS1:=Lib.hid hHS1;clear hHS1;obtain⟨c0, -,c2, -, -, -,cl⟩:=HS1.out.ac.a3;simp at c0 c2;obtain⟨bl,z1,_⟩:=HS1.out.ks.place_ hpl hp' HA4.out HES.out hel;obtain⟨el,y0,y1,y2⟩:=HS1.out.ks.opnB hpl hp' HES.out HI.out;rw[HXE.out] at y0 y1 y2;go_wp2_with fail;go_quiet (fail);have HS2:=Lib.hid (HS1.out.below (Below.drewN' (Below.refl _ _) nq));clear HS1;clear c0 c2 cl bl z1 el y0 y1 y2;go_upto_region 52 with fail
 refine(show ∀ W2:World,ByAt B w W2 g a k ms es _→Code.wp _ _ _ _ W2 from ?_) _ (HS2.out);clear HS2;intro W2 hHS2;have HS2:=Lib.hid hHS2;clear hHS2;obtain⟨x0, -, -, -,xl⟩:=HS2.out.wk.a2;have c0:=HS2.out.ac.cell 0;have c5:=HS2.out.ac.cell 5;have cl:=HS2.out.ac.lt;simp at x0 c0 c5;obtain⟨bl,z1,_⟩:=HS2.out.ks.place_ hpl hp' HA4.out HES.out hel;obtain⟨el,y0,y1,y2⟩:=HS2.out.ks.opnB hpl hp' HES.out HI.out;rw[HXE.out] at y0 y1 y2;have HC:=Lib.hid (write_any HR dt W2 HS2.out.ks HKO.out (HTB.out.fr HS2.out.fr hgB) hgB HSZ.out hpl hp' HES.out HI.out HN0.out HN3.out);obtain⟨r,hr⟩:∃ r,r=Azh k p i dt:=⟨_,rfl⟩;rw[←hr] at HC;have HRE:=Lib.hid hr;have HRD:=Lib.hid (show r.2.data=noS by rw[hr];exact Qz1 k p i dt);clear hr;go_wp2_with fail;refine HC.out.mono ?_;rintro e w4 ⟨rfl,hF,a',hK⟩;have HS4:=Lib.hid (HS2.out.next hK hF);clear HC hK hF HS2 x0 xl c0 c5 cl bl z1 el y0 y1 y2;obtain⟨o0,o1,of0,of1,ol⟩:=HS4.out.ot.a2;simp at o0 o1;obtain⟨r1,r2⟩:=r;obtain⟨rc,rn,rd⟩:=r2;go_upto_region 61 with fail
 refine(show ∀ W7:World,ByEnd B w W7 g a' r1 ms es rc rn noS→Code.wp _ _ _ _ W7 from ?_) _ (((HS4.out.nothing.set_ 1 (.int .i64 rn) (v0:=0) (v1:=rn) (t:=noS) rfl).set_ 0 (.int .i64 rc) (v0:=rc) (v1:=rn) (t:=noS) rfl));intro W7 h7;obtain⟨o0,o1,o2, -⟩:=h7.ot.a3;obtain⟨r0,r1,r2,f0,f1,f2, -⟩:=h7.rs.a3;have ol:=h7.ot.lt;have rl:=h7.rs.lt;simp at o0 o1 o2 r0 r1 r2;have H7:=Lib.hid h7;clear h7;go_wp2;refine bodyPost_ret (v:= .agg #[.int .i64 rc, .int .i64 rn, .string noS]) (by simp[results,Tryz.results19,go_sem,r0,r1,r2]) rfl ?_;exact H7.out.fin _ (HRE.out.symm.trans (by rw[show rd=noS from HRD.out]))
theorem Szh (HR:RunC 96) (x:Akt) (w:World) (h:KS B w g a k ms es) (hk:KOk k) (ht:Tab w) (hgB:0<B) (hp:p<4) (ha4:a.a4=some ⟨b4,0,none⟩)
  (hn:x.name.size≤maxLen) (hd:x.data.size≤maxLen) (h5:5≤x.kind) (h11:x.kind≤11):
  Calls Tryz.prog 19 #[.agg #[.pointer (some ⟨g,0,none⟩)], .pointer (some ⟨b4,p*2,none⟩), .agg x.cells] w (Cz1 B w g ms (byK k p x)):=by
 obtain⟨kd,xp,xn,xm,nm,dt⟩:=x;simp only at hn hd h5 h11;show Calls _ _ #[_,_, .agg #[.int .i64 kd, .int .i64 xp, .int .i64 xn, .int .i64 xm, .string nm, .string dt]] _ _;by_cases k5:kd=5
 ·subst k5
  exact Qzu nm dt xp xn xm w h hk hp ha4 hn
 by_cases k9:kd=9
 ·subst k9
  exact Qzv nm dt xp xn xm w h hk hp ha4
 by_cases k10:kd=10
 ·subst k10
  exact Qzt nm dt xp xn xm w h hk hp ha4
 by_cases k11:kd=11
 ·subst k11
  exact Qzs nm dt xp xn xm w h hk hp ha4
 have e5:(kd == 5)=false:=by rw[beq_eq_false_iff_ne];exact k5
 have e9:(kd == 9)=false:=by rw[beq_eq_false_iff_ne];exact k9
 have e10:(kd == 10)=false:=by rw[beq_eq_false_iff_ne];exact k10
 have e11:(kd == 11)=false:=by rw[beq_eq_false_iff_ne];exact k11
 have hb:byK k p ⟨kd,xp,xn,xm,nm,dt⟩=if xn<0∨6≤xn∨((k.procs.getD p default).ends.getD xn.toNat default).kind=0 then (k,ansE 6) else if kd=6 then (Czx (setEnd k p xn.toNat default),ansN 0)
   else if (kd=7∧((k.procs.getD p default).ends.getD xn.toNat default).kind=3)∨(kd=8∧((k.procs.getD p default).ends.getD xn.toNat default).kind=2) then (k,ansE 3) else if kd=7 then Bzu k p xn.toNat xm else Azh k p xn.toNat dt:=by
  unfold byK;simp only;rw[if_neg k5,if_neg k9,if_neg k10,if_neg k11]
 rw[hb];by_cases hneg:xn<0
 ·rw[if_pos (.inl hneg)]
  exact Jzr nm dt xp xn xm w h hk hp ha4 kd e5 e9 e10 e11 hneg
 by_cases hbig:6≤xn
 ·rw[if_pos (.inr (.inl hbig))]
  exact Jzq nm dt xp xn xm w h hk hp ha4 kd e5 e9 e10 e11 hbig
 obtain⟨i,hi⟩:∃ i:Nat,xn=(i:Int):=⟨xn.toNat,by omega⟩;have hi6:i<6:=by omega
 have hti:xn.toNat=i:=by omega
 rw[hti];by_cases hfree:((k.procs.getD p default).ends.getD i default).kind=0
 ·rw[if_pos (.inr (.inr hfree))]
  exact Izf nm dt xp xn xm w h hk hp ha4 kd e5 e9 e10 e11 i hi6 hi hfree
 rw[if_neg (by rintro (q|q|q);exact hneg q;exact hbig q;exact hfree q)];by_cases k6:kd=6
 ·subst k6
  rw[if_pos rfl];exact Ozt nm dt xp xn xm w h hk hp ha4 i hi6 hi hfree
 rw[if_neg k6];by_cases k7:kd=7
 ·subst k7
  by_cases h3:((k.procs.getD p default).ends.getD i default).kind=3
  ·rw[if_pos (.inl ⟨rfl,h3⟩)]
   exact Ozu nm dt xp xn xm w h hk hp ha4 i hi6 hi hfree h3
  ·rw[if_neg (by rintro (⟨_,q⟩|⟨q,_⟩);exact h3 q;omega),if_pos rfl]
   exact Qzw nm dt xp xn xm w h hk hp ha4 i hi6 hi hfree HR ht hgB h3
 ·have k8:kd=8:=by omega
  subst k8;by_cases h2:((k.procs.getD p default).ends.getD i default).kind=2
  ·rw[if_pos (.inr ⟨rfl,h2⟩)]
   exact Ozv nm dt xp xn xm w h hk hp ha4 i hi6 hi hfree h2
  ·rw[if_neg (by rintro (⟨q,_⟩|⟨_,q⟩);omega;exact h2 q),if_neg (by omega)]
   exact Ozw nm dt xp xn xm w h hk hp ha4 i hi6 hi hfree HR ht hgB hd h2
end
end Go.Proofs.YtdjamdbamkhblacGreatDoor
namespace Go.Proofs.YtdjamdbamkhblacGreatDoor
open Go.RowKit
set_option linter.unusedVariables false
set_option linter.unusedSimpArgs false
def Czg (n:Nat):Option (List UInt8)→List UInt8 × Option (List UInt8)
 | none=>([],none)
 | some r=>if n≤r.length then (r.take n,some (r.drop n)) else ([],none)
def numB:List UInt8→Nat→Nat
 | [],x=>x
 | c::r,x=>numB r (256*x+c.toNat)
def numS (n:Nat) (st:Option (List UInt8)):Nat × Option (List UInt8):=(numB (Czg n st).1 0,(Czg n st).2)
def RdrAt (w:World) (g:Nat):Option (List UInt8)→Prop
 | some r=>Blk w g 119 #[.string (ba r), .int .i64 0]∧r.length≤4000
 | none=>∃ s:ByteArray,Blk w g 119 #[.string s, .int .i64 5]
theorem Dz8 (r:List UInt8):(ba r).size=r.length:=rfl
theorem RdrAt.lt {w:World} {g:Nat} {st:Option (List UInt8)} (h:RdrAt w g st):g<w.heap.size:=by
 cases st with
 | none=>obtain⟨s,h⟩:=h;exact h.lt
 | some r=>exact h.1.lt
theorem Fz1 (r:List UInt8) (a b:Nat):(ba r).extract a b=ba ((r.drop a).take (b - a)):=by
 apply ByteArray.ext;simp[ba,List.extract_eq_take_drop]
theorem Jzp (r:List UInt8) (n:Nat):(ba r).extract 0 n=ba (r.take n):=by rw[Fz1];simp
theorem Hzj (r:List UInt8) (n:Nat):(ba r).extract n r.length=ba (r.drop n):=by rw[Fz1,List.take_of_length_le (by simp)]
theorem Gzp {w w':World} {row:Option Nat} (h:Below w.heap.size w w'):w.grownBy w' row:=⟨h.os,h.tape,h.output,h.size,fun k hk _=>h.block k hk⟩
theorem RdrAt.below {w w':World} {B g:Nat} {st:Option (List UInt8)} (h:RdrAt w g st) (hb:Below B w w') (hg:g<B):RdrAt w' g st:=by
 cases st with
 | none=>obtain⟨s,h⟩:=h;exact⟨s,h.below hb hg⟩
 | some r=>exact⟨h.1.below hb hg,h.2⟩
theorem RdrAt.grown {w w':World} {row:Option Nat} {g:Nat} {st:Option (List UInt8)} (h:RdrAt w g st) (hb:w.grownBy w' row) (hg:some g≠row):RdrAt w' g st:=by
 cases st with
 | none=>obtain⟨s,h⟩:=h;exact⟨s,h.grown hb hg⟩
 | some r=>exact⟨h.1.grown hb hg,h.2⟩
theorem take_any (g n:Nat) (st:Option (List UInt8)) (w:World) (hn:n≤255) (h:RdrAt w g st):
  Calls Tryz.prog 81 #[.pointer (some ⟨g,0,none⟩), .int .i64 (n:Int)] w fun e w'=>e= .returned (.string (ba (Czg n st).1))∧RdrAt w' g (Czg n st).2∧w.grownBy w' (some g):=by
 cases st with
 | none=>
   obtain⟨s,hB⟩:=h;obtain⟨c0,c1, -⟩:=hB.a2;simp at c0 c1;go_enter Tryz.func81,Tryz.ntmps81;go_wp2;go_ret;exact⟨rfl,⟨s,hB⟩,World.grownBy.refl w _⟩
 | some r=>
   obtain⟨hB,hl⟩:=h;obtain⟨c0,c1,f0,f1, -⟩:=hB.a2;have hs:=Dz8 r;simp at c0 c1;have HB:=Lib.hid hB;clear hB;by_cases hle:n≤r.length
   ·have hle':(n:Int)≤(r.length:Int):=by omega
    go_enter Tryz.func81,Tryz.ntmps81;go_wp2;go_ret;have hb:=HB.out.set_ 0 (.string (ba (r.drop n)));rw[Jzp,Hzj,Czg,if_pos hle];exact⟨rfl,⟨hb,by rw[List.length_drop];omega⟩,Bzg w ⟨g,0,none⟩ _⟩
   ·have hle':(r.length:Int)<(n:Int):=by omega
    go_enter Tryz.func81,Tryz.ntmps81;go_wp2;go_ret;have hb:=HB.out.set_ 1 (.int .i64 5);rw[Czg,if_neg hle];exact⟨rfl,⟨_,hb⟩,Bzg w ⟨g,1,none⟩ _⟩
theorem Rzc:∀ (l:List UInt8),l.length≤2→numB l 0≤65535∧(l.length≤1→numB l 0≤255)
 | [],_=>by simp[numB]
 | [a],_=>by have:=a.toNat_lt;simp[numB];omega
 | [a,b],_=>by have:=a.toNat_lt;have:=b.toNat_lt;simp[numB];omega
 | a::b::c::r,h=>by simp at h
theorem Ezq (n:Nat) (st:Option (List UInt8)):(Czg n st).1.length≤n:=by
 unfold Czg;split
 ·simp
 ·split
  ·simp;omega
  ·simp
theorem Bzv (n:Nat) (st:Option (List UInt8)) (h:n≤2):(numS n st).1≤65535∧(n≤1→(numS n st).1≤255):=by
 have h1:=Ezq n st;have h2:=Rzc (Czg n st).1 (by omega);exact⟨h2.1,fun hn=>h2.2 (by omega)⟩
theorem Nzo {l:List UInt8} {k:Nat} (h:k<l.length) (x:Nat):numB (l.drop k) x=numB (l.drop (k+1)) (256*x+l[k].toNat):=by
 rw[List.drop_eq_getElem_cons h];rfl
theorem Rze (x c:Nat) (hx:x≤255) (hc:c≤255):bits BinOp.or IntKind.i64 (256*(x:Int)) (c:Int)=256*(x:Int)+(c:Int):=by
 have h:=Ez0 (256*x) c (by omega) (by omega);rw[show ((256*x:Nat):Int)=256*(x:Int) by omega] at h;rw[h];have e:2 ^ 8*x+c=2 ^ 8*x |||c:=Nat.two_pow_add_eq_or_of_lt (by omega) x;rw[show 256*x |||c=256*x+c from e.symm];omega
theorem Cz9 (g n:Nat) (st:Option (List UInt8)) (w:World) (hn:n≤2) (h:RdrAt w g st):
  Calls Tryz.prog 82 #[.pointer (some ⟨g,0,none⟩), .int .i64 (n:Int)] w fun e w'=>e= .returned (.int .i64 ((numS n st).1:Nat))∧RdrAt w' g (numS n st).2∧w.grownBy w' (some g):=by
 obtain⟨l,hl⟩:∃ l,l=(Czg n st).1:=⟨_,rfl⟩;have hlen:l.length≤2:=by have:=Ezq n st;rw[hl];omega
 have HNS:Hid ((numS n st).1=numB (l.drop 0) 0∧(numS n st).2=(Czg n st).2):=by rw[hl];exact⟨rfl,rfl⟩
 have HT:=Lib.hid (take_any g n st w (by omega) h);rw[←hl] at HT;have hgl:=h.lt;clear hl;go_enter Tryz.func82,Tryz.ntmps82;go_wp2_with fail;refine HT.out.mono ?_;rintro e w1 ⟨rfl,hR,hg⟩;obtain⟨cap,w2,hcv,hb2,hr2⟩:=Gzv w1 (ba l);rw[show (ba l).data.toList=l from rfl] at hcv hr2;have HR:=Lib.hid hR;have HG:=Lib.hid hg;have HB2:=Lib.hid hb2;clear hR hg hb2;go_wp2;have hl9:(l.length:Int)≤2:=by omega
 go_loop [5,13] (fun x i=>Cnt l.length i fun k=>∃ q:Nat,x= .int .i64 (q:Int)∧q≤65535∧(k=0→q=0)∧(k≤1→q≤255)∧Hid (numB (l.drop 0) 0=numB (l.drop k) q)) (fun _ i=>l.length - (intOf i).toNat)
 case atStart=>exact⟨0,Nat.zero_le _,rfl,0,rfl,by omega,fun _=>rfl,fun _=>by omega,rfl⟩
 case round=>
  obtain⟨k,hk,rfl,q,rfl,hq,hq0,hq1,HV⟩:=hrel;by_cases hlt:k<l.length
  ·obtain⟨b,o,e,hbB,hcell⟩:=hr2 (by omega)
   injection e with e
   injection e with e1 e2
   subst e1 e2;have c0:=hcell k hlt;rw[Nat.zero_add] at c0;have hq2:q≤255:=hq1 (by omega);have hx:=l[k].toNat_lt;have hor:=Rze q l[k].toNat hq2 (by omega);have HD:Hid (numB (l.drop k) q=numB (l.drop (k+1)) (256*q+l[k].toNat)):=Nzo hlt q;have hkq:k=0→q=0:=hq0;have hwr:IntKind.i64.wrap ((q:Int)*256)=256*(q:Int):=by rw[Go.IntWalk.i64_in _ (by omega)];omega
   have H1:=Lib.hid hkq;obtain⟨z,hz⟩:∃ z,z=l[k].toNat:=⟨_,rfl⟩;rw[←hz] at c0 hx hor HD;clear hcell hr2 hq0 hq1 hkq hz;go_wp2;refine⟨⟨k+1,by omega,by go_num,256*q+z,congrArg (Value.int .i64) (by omega),by omega,fun h=>by omega,fun h=>?_,?_⟩,by simp[intOf];omega⟩
   ·have:=H1.out (by omega);omega
   ·show _=_
    rw[HV.out,HD.out]
  ·have hk1:k=l.length:=by omega
   subst hk1;go_wp2;go_ret;have hg1:w1.grownBy w2 (some g):=Gzp HB2.out;refine⟨Az8 ?_,?_,HG.out.trans hg1⟩
   ·rw[HNS.out.1,HV.out,List.drop_length];rfl
   ·rw[HNS.out.2]
    exact HR.out.below HB2.out (Nat.lt_of_lt_of_le hgl (by have:=HG.out.size;omega))
def goI (st:Option (List UInt8)) (k:Nat):Option (List Ins × List UInt8):=st.bind (getI k)
def goW (st:Option (List UInt8)) (k:Nat):Option (List Int × List UInt8):=st.bind (getW k)
def stI (st:Option (List UInt8)):Option (List UInt8):=(numS 2 (numS 1 (numS 1 st).2).2).2
def insS (st:Option (List UInt8)):Ins:=⟨((numS 1 st).1:Nat),((numS 1 (numS 1 st).2).1 / 16:Nat),((numS 1 (numS 1 st).2).1 % 16:Nat),((numS 2 (numS 1 (numS 1 st).2).2).1:Nat)⟩
theorem Dzp:numS 1 (some [])=(0,none):=rfl
theorem Bza (c:UInt8) (r:List UInt8):numS 1 (some (c::r))=(c.toNat,some r):=by
 simp[numS,Czg,numB]
theorem Nzp (c:UInt8):numS 2 (some [c])=(0,none):=rfl
theorem Czl (c d:UInt8) (r:List UInt8):numS 2 (some (c::d::r))=(256*c.toNat+d.toNat,some r):=by
 simp[numS,Czg,numB]
theorem Kzq (r:List UInt8) (j:Nat) (x:Ins) (hx:stI (some r)≠none→x=insS (some r)):goI (some r) (j+1)=(goI (stI (some r)) j).map fun y=>(x::y.1,y.2):=by
 match r,hx with
 | [],_=>rfl
 | [a],_=>rfl
 | [a,b],_=>rfl
 | [a,b,c],_=>rfl
 | a::b::c::d::r,hx=>
   have e:stI (some (a::b::c::d::r))=some r:=by simp only[stI,Bza,Czl]
   have hx':=hx (by rw[e];simp);rw[e,hx'];simp only[insS,Bza,Czl];rfl
theorem Kzr (st:Option (List UInt8)):goI st 0=st.map fun r=>([],r):=by cases st<;>rfl
theorem Kzs (r:List UInt8) (j:Nat) (x:Int) (hx:(numS 2 (some r)).2≠none→x=((numS 2 (some r)).1:Nat)):goW (some r) (j+1)=(goW (numS 2 (some r)).2 j).map fun y=>(x::y.1,y.2):=by
 match r,hx with
 | [],_=>rfl
 | [a],_=>rfl
 | a::b::r,hx=>
   have hx':=hx (by rw[Czl];simp);rw[hx',Czl];rfl
theorem Kzt (st:Option (List UInt8)):goW st 0=st.map fun r=>([],r):=by cases st<;>rfl
theorem Hzp {α:Type} {g:Option (List α × List UInt8)} {st st':Option (List UInt8)} {L:List α} {x:α} {f:Option (List UInt8)→Nat→Option (List α × List UInt8)} {k j:Nat}
  (h:g=(f st (j - k)).map fun y=>(L++y.1,y.2)) (hk:k<j) (hs:f st (j - k - 1+1)=(f st' (j - k - 1)).map fun y=>(x::y.1,y.2)):g=(f st' (j - (k+1))).map fun y=>((L++ [x])++y.1,y.2):=by
 rw[h,show j - k=j - k - 1+1 by omega,hs,show j - (k+1)=j - k - 1 by omega,Option.map_map]
 congr 1
 funext y
 simp
theorem Fz2 {t:List UInt8} {nm:List UInt8} {L:List Ins} {D:List Int} {st2 st4 st6:Option (List UInt8)}
  (h2:Czg (numS 1 (some t)).1 (numS 1 (some t)).2=(nm,st2)) (h4:goI (numS 1 st2).2 (numS 1 st2).1=st4.map fun r=>(L,r)) (h6:goW (numS 1 st4).2 (numS 1 st4).1=st6.map fun r=>(D,r)):
  getM t=st6.map fun r=>(⟨ba nm,L,D⟩,r):=by
 cases t with
 | nil=>
   rw[Dzp] at h2;obtain⟨rfl,rfl⟩:=Prod.mk.inj h2;cases st4 with
   | some r=>cases h4
   | none=>
     cases st6 with
     | some r=>cases h6
     | none=>rfl
 | cons n r=>
   rw[Bza] at h2;simp only[Czg] at h2;by_cases hle:n.toNat≤r.length
   ·rw[if_pos hle] at h2
    obtain⟨rfl,rfl⟩:=Prod.mk.inj h2;simp only[getM,if_neg (show ¬ r.length<n.toNat by omega)];cases hd:r.drop n.toNat with
    | nil=>
      rw[hd,Dzp] at h4;cases st4 with
      | some r=>cases h4
      | none=>
        cases st6 with
        | some r=>cases h6
        | none=>rfl
    | cons k r1=>
      rw[hd,Bza] at h4;simp only[goI,Option.bind_some] at h4;simp only[h4];cases st4 with
      | none=>
        cases st6 with
        | some r=>cases h6
        | none=>rfl
      | some r3=>
        simp only[Option.map_some,Option.bind_some];cases r3 with
        | nil=>
          rw[Dzp] at h6;cases st6 with
          | some r=>cases h6
          | none=>rfl
        | cons j r2=>
          rw[Bza] at h6;simp only[goW,Option.bind_some] at h6;simp only[h6];cases st6<;>rfl
   ·rw[if_neg hle] at h2
    obtain⟨rfl,rfl⟩:=Prod.mk.inj h2;cases st4 with
    | some r=>cases h4
    | none=>
      cases st6 with
      | some r=>cases h6
      | none=>
        simp only[getM,if_pos (show r.length<n.toNat by omega)];rfl
def decR (s:ByteArray):Mod × Int:=((decE s.data.toList Az7).1.getD ⟨⟨#[]⟩,[],[]⟩,(decE s.data.toList Az7).2)
def DecPost (w:World) (r:Mod × Int) (e:Ending) (w':World):Prop:=
 ∃ VC VD,e= .returned (.tuple #[.agg #[.string r.1.name,VC,VD], .int .i64 r.2])∧w'.ownsRow w.heap.size 104 4 VC r.1.code.length (Azc r.1.code)∧w'.ownsRow w.heap.size 3 1 VD r.1.data.length (intCells r.1.data)∧Below w.heap.size w w'
theorem DecPost.no {w w':World} {s:ByteArray} {n:Int} {e:Ending} (hr:decE s.data.toList Az7=(none,n)) (he:e= .returned (.tuple #[.agg #[.string ⟨#[]⟩, .slice none 0 0, .slice none 0 0], .int .i64 n])) (hb:Below w.heap.size w w'):DecPost w (decR s) e w':=by
 have:decR s=(⟨⟨#[]⟩,[],[]⟩,n):=by unfold decR;rw[hr];rfl
 rw[this];exact⟨_,_,he,World.ownsRow_nil _ _ _ _,World.ownsRow_nil _ _ _ _,hb⟩
theorem DecPost.yes {w w':World} {s:ByteArray} {m:Mod} {VC VD:Value} {e:Ending} (hr:decE s.data.toList Az7=(some m,0)) (he:e= .returned (.tuple #[.agg #[.string m.name,VC,VD], .int .i64 0]))
  (hc:w'.ownsRow w.heap.size 104 4 VC m.code.length (Azc m.code)) (hd:w'.ownsRow w.heap.size 3 1 VD m.data.length (intCells m.data)) (hb:Below w.heap.size w w'):DecPost w (decR s) e w':=by
 have:decR s=(m,0):=by unfold decR;rw[hr];rfl
 rw[this];exact⟨_,_,he,hc,hd,hb⟩
end Go.Proofs.YtdjamdbamkhblacGreatDoor
