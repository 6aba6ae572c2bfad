/- The reference's writtenAt, all ways. Condition: the listed table, the run's contract (RunC). The walk of the reference's made: a file, or a device. No condition. A region that draws its order, whose operations are quiet but for a tail that waits for all: one walk. No condition. -/
import Derived.Test.YtdjamdbamkhblacGreatDoorKWritAtN2
import Derived.StillTailTactics
import Derived.StillTail
namespace Go.Proofs.YtdjamdbamkhblacGreatDoor
open Go.RowKit
section
variable {B g:Nat} {a:KA} {k:Krn} {ms:List (Value × Value)} {es:List Value}
theorem Iz6 (HR:RunC 102) {p i:Nat} (s:ByteArray) (w:World) (h:KS B w g a k ms es) (hk:KOk k) (ht:Tab w) (hgB:0<B) (hsm:s.size≤maxLen) (hp:p<4) (hi:i<6)
  (h0:((k.procs.getD p default).ends.getD i default).kind≠0):
  Calls Tryz.prog 68 #[.pointer (some ⟨g,0,none⟩), .int .i64 (p:Int), .int .i64 (i:Int), .string s] w (Azd B w g ms es (Cz3 k p i s)):=by
 by_cases h2:((k.procs.getD p default).ends.getD i default).kind=2
 ·exact Dz4 s w h hk hp hi (.inl h2) h0 hsm
 by_cases hm:s.size<1∨100<s.size
 ·exact Dz4 s w h hk hp hi (.inr (.inl hm)) h0 hsm
 by_cases h3:((k.procs.getD p default).ends.getD i default).kind=3
 ·exact Dz4 s w h hk hp hi (.inr (.inr h3)) h0 hsm
 by_cases hd:(k.nodes.getD ((k.procs.getD p default).ends.getD i default).node.toNat default).kind=2
 ·exact Iz7 HR s w h hk ht hgB hp hi h3 h2 hd (by omega) (by omega) h0
 by_cases hb:100 - ((k.procs.getD p default).ends.getD i default).pos.toNat<s.size
 ·exact Fzy s w h hk ht hp hi h3 h2 hd hb (by omega) (by omega) h0
 ·exact Fzz s w h hk ht hp hi h3 h2 hd hb (by omega) (by omega) h0
end
set_option linter.unusedVariables false
set_option linter.unusedSimpArgs false
attribute [local go_sem] After.cell
def Czy (B:Nat) (w:World) (g:Nat) (a:KA) (ms:List (Value × Value)) (es:List Value) (r:Krn × Ans) (e:Ending) (w':World):Prop:=
 e= .returned (.agg #[.int .i64 r.2.code, .int .i64 r.2.n, .string r.2.data])∧KS B w' g a r.1 ms es∧Fr B w w'
section
variable {B g:Nat} {a:KA} {k:Krn} {ms:List (Value × Value)} {es:List Value}
theorem Jz3 {s:ByteArray} (h:Azs s=true):refN k s=Bzm k s:=by unfold refN;rw[Gzk h];rfl
set_option maxRecDepth 100000 in
set_option maxHeartbeats 4000000 in
theorem Lz2 (s:ByteArray) (x:Nod) (w:World) (h:KS B w g a k ms es) (hk:KOk k) (hs:s.size≤maxLen):
  Calls Tryz.prog 24 #[.pointer (some ⟨g,0,none⟩), .string s, .agg #[.string x.name, .int .i64 x.kind, .string x.data, .int .i64 x.unit]] w (Czy B w g a ms es (Cze k s x)):=by
 have l2:=hk.l2;have hm8:=hk.l0;obtain⟨b2,ha2,hbb2,hlt2⟩:=Azf h.cp.nodes (by omega);have hb1:=Az6 w (.cells #[.string x.name, .int .i64 x.kind, .string x.data, .int .i64 x.unit] 49);have hb2:=hb1.alloc hb1.size (.cells #[.int .i64 0, .int .i64 0, .string ⟨#[]⟩] 36);have HN:=Lib.hid ((Blk.new w 49 #[.string x.name, .int .i64 x.kind, .string x.data, .int .i64 x.unit]).alloc (.cells #[.int .i64 0, .int .i64 0, .string ⟨#[]⟩] 36));have HR:Hid (Blk ((w.alloc (.cells #[.string x.name, .int .i64 x.kind, .string x.data, .int .i64 x.unit] 49)).alloc (.cells #[.int .i64 0, .int .i64 0, .string ⟨#[]⟩] 36)) (w.heap.size+1) 36 #[.int .i64 0, .int .i64 0, .string ⟨#[]⟩]):=Blk.new' (by simp);have HA2:=Lib.hid ha2;have H0:=Lib.hid h;have HW:=Lib.hid hb2;have HKO:=Lib.hid hk;clear h hb1 hb2 ha2 hk;generalize hW2:(w.alloc (.cells #[.string x.name, .int .i64 x.kind, .string x.data, .int .i64 x.unit] 49)).alloc (.cells #[.int .i64 0, .int .i64 0, .string ⟨#[]⟩] 36)=W2 at*;have HW2:=Lib.hid hW2;have HNA:=Lib.hid (Bzz s W2 hs);obtain⟨r0,r1,r2,rf0,rf1,rf2,rl⟩:=HR.out.a3;simp at r0 r1 r2;clear hW2;have HFIN:Hid (∀ (W:World) (u0 u1:Int),Below w.heap.size w W→KS B (((W.setCell ⟨w.heap.size+1,0,none⟩ (.int .i64 u0)).setCell ⟨w.heap.size+1,1,none⟩ (.int .i64 u1)).setCell ⟨w.heap.size+1,2,none⟩ (.string ⟨#[]⟩)) g a k ms es∧Fr B w (((W.setCell ⟨w.heap.size+1,0,none⟩ (.int .i64 u0)).setCell ⟨w.heap.size+1,1,none⟩ (.int .i64 u1)).setCell ⟨w.heap.size+1,2,none⟩ (.string ⟨#[]⟩))):=fun W u0 u1 hW=>by
  have:=((hW.setCell (p:=⟨w.heap.size+1,0,none⟩) (Nat.le_succ _) (.int .i64 u0)).setCell (p:=⟨w.heap.size+1,1,none⟩) (Nat.le_succ _) (.int .i64 u1)).setCell (p:=⟨w.heap.size+1,2,none⟩) (Nat.le_succ _) (.string ⟨#[]⟩);exact⟨H0.out.below this,Fr.low this (Nat.le_of_lt H0.out.lt)⟩
 cases hnm:Azs s with
 | false=>
   have HV:=Lib.hid (Gzz (k:=k) (x:=x) hnm);rw[hnm] at HNA;clear hnm;go_enter Tryz.func24,Tryz.ntmps24;go_wp2_with fail;rw[HW2.out];refine HNA.out.mono ?_;rintro e w1 ⟨rfl,rfl⟩;go_wp2;refine bodyPost_ret (v:= .agg #[.int .i64 4, .int .i64 0, .string ⟨#[]⟩]) (by simp[results,Tryz.results24,go_sem,r0,r1,r2]) rfl ?_;unfold Czy;rw[HV.out];exact⟨rfl,HFIN.out _ _ _ HW.out⟩
 | true=>
   rw[hnm] at HNA;have HNM:=Lib.hid hnm;clear hnm;have hK2:=H0.out.below HW.out;obtain⟨c0,c1,c2,c3,c4⟩:=hK2.c5;rw[l2,HA2.out] at c2;have gl:=hK2.blk.lt;have HF:=Lib.hid (Fz6 (.slice a.a0 k.mods.length a.c0) (.slice a.a1 k.mem.length a.c1) (.slice a.a3 k.pipes.length a.c3) (.slice a.a4 k.procs.length a.c4) a.a2 a.c2 k s W2 HKO.out hK2.krn.nodes);rw[Jz3 HNM.out,l2,HA2.out] at HF;clear hK2;go_enter Tryz.func24,Tryz.ntmps24;go_wp2_with fail;rw[HW2.out];refine HNA.out.mono ?_;rintro e w1 ⟨rfl,rfl⟩;go_wp2_with fail;refine HF.out.mono ?_;rintro e w2 ⟨rfl,hb2⟩;have HV2:=Lib.hid (HW.out.trans (hb2.mono HW.out.size));have HR2:=Lib.hid (HR.out.below hb2 HR.out.lt);have HN2:=Lib.hid (HN.out.below hb2 HN.out.lt);clear HF hb2 r0 r1 r2 rf0 rf1 rf2 rl HN HR HNA HW2 c0 c1 c2 c3 c4 gl HW;obtain⟨r0,r1,r2,rf0,rf1,rf2,rl⟩:=HR2.out.a3;simp at r0 r1 r2;obtain⟨fi,hfi⟩:∃ fi,fi=Bzm k s:=⟨_,rfl⟩;rw[←hfi];by_cases h0:0≤fi
   ·have HV:=Lib.hid (Gzh (k:=k) (x:=x) HNM.out (by rw[←hfi];exact h0))
    clear hfi;go_wp2;refine bodyPost_ret (v:= .agg #[.int .i64 7, .int .i64 0, .string ⟨#[]⟩]) (by simp[results,Tryz.results24,go_sem,r0,r1,r2]) rfl ?_;unfold Czy;rw[HV.out];exact⟨rfl,HFIN.out _ _ _ HV2.out⟩
   ·have h0':fi<0:=by omega
    have HF2:=Lib.hid (show Bzm k s<0 by rw[←hfi];exact h0');clear hfi h0;obtain⟨n0,n1,n2,n3⟩:=HN2.out.c4;have nl:=HN2.out.lt;have hK2:=H0.out.below HV2.out;obtain⟨c0,c1,c2,c3,c4⟩:=hK2.c5;have gl:=hK2.blk.lt;rw[l2,HA2.out] at c2;have hm8':(k.mods.length:Int)≤8:=by omega
    clear hK2;by_cases hbad:x.kind=2∧(x.unit<0∨(k.mods.length:Int)≤x.unit)
    ·have HV:=Lib.hid (Hz0 (k:=k) (x:=x) HNM.out HF2.out hbad)
     have hk2:(x.kind == 2)=true:=by rw[hbad.1];rfl
     have hin:inB x.unit 0 ((k.mods.length:Int) - 1)=false:=Azp (by omega);have C2:Hid (∀ X:After w2,Calls Tryz.prog 21 #[.int .i64 x.unit, .int .i64 0, .int .i64 ((k.mods.length:Int) - 1)] X.w' fun e w'=>e= .returned (.bool false)∧X.w'=w'):=fun X=>by rw[←hin];exact Azi _ _ _ _
     clear hbad hin;go_wp2;refine Azb (by kernel_rfl) (by kernel_rfl) ?_
     repeat (go_big_quiet_step ((rename_i X;exact Calls.calm_same (C2.out X))))
     refine wpQuiet_nil ?_;rintro W3 ⟨⟨_,hb3⟩,rfl⟩;rename_i W3;have HV3:=Lib.hid (HV2.out.trans (hb3.mono HV2.out.size));have HR3:=HR2.out.below hb3 HR2.out.lt;clear r0 r1 r2 rf0 rf1 rf2 rl;obtain⟨r0,r1,r2,rf0,rf1,rf2,rl⟩:=HR3.a3;simp at r0 r1 r2;clear HR3 hb3;go_wp2;refine bodyPost_ret (v:= .agg #[.int .i64 6, .int .i64 0, .string ⟨#[]⟩]) (by simp[results,Tryz.results24,go_sem,r0,r1,r2]) rfl ?_;unfold Czy;rw[HV.out];exact⟨rfl,HFIN.out _ _ _ HV3.out⟩
    ·have hcase:(x.kind == 2)=false∨((x.kind == 2)=true∧inB x.unit 0 ((k.mods.length:Int) - 1)=true):=by
      by_cases hk2:x.kind=2
      ·exact .inr ⟨by rw[hk2];rfl,Azl (by omega) (by omega)⟩
      ·exact .inl (by rw[beq_eq_false_iff_ne];exact hk2)
     have HBAD:=Lib.hid hbad;have C2:Hid (∀ X:After w2,Calls Tryz.prog 21 #[.int .i64 x.unit, .int .i64 0, .int .i64 ((k.mods.length:Int) - 1)] X.w' fun e w'=>e= .returned (.bool (inB x.unit 0 ((k.mods.length:Int) - 1)))∧X.w'=w'):=fun X=>Azi _ _ _ _
     clear hbad;rcases hcase with q1|⟨q1,q2⟩
     ·clear C2
      go_wp2;refine Azb (by kernel_rfl) (by kernel_rfl) ?_
      repeat (go_big_quiet_step (fail))
      refine wpQuiet_nil ?_;rintro W3 ⟨⟨_,hb3⟩,rfl⟩;rename_i W3;have HV3:=Lib.hid (HV2.out.trans (hb3.mono HV2.out.size));have HR3:=Lib.hid (HR2.out.below hb3 HR2.out.lt);have HN3:=Lib.hid (HN2.out.below hb3 HN2.out.lt);clear r0 r1 r2 rf0 rf1 rf2 rl n0 n1 n2 n3 nl c0 c1 c2 c3 c4 gl hb3 HR2 HN2 HV2;have HVF:Hid (Dzm k=idxF (fun y:Nod=>y.kind == 0) k.nodes 0):=rfl;go_wp2;go_loop [7] (fun i=>Cnt 8 i fun n=>Hid (Dzm k=idxF (fun y:Nod=>y.kind == 0) (k.nodes.drop n) n)) (fun i=>8 - (intOf i).toNat)
      case atStart=>exact⟨0,Nat.zero_le _,rfl,HVF⟩
      case round=>
       obtain⟨n,hn,rfl,HE⟩:=hrel;by_cases hlt:n<8
       ·have hlt':n<k.nodes.length:=by omega
        have hK3:=H0.out.below HV3.out;obtain⟨c0,c1,c2,c3,c4⟩:=hK3.c5;have gl:=hK3.blk.lt;rw[l2,HA2.out] at c2;obtain⟨b',o',e1,hbB',hcell⟩:=hK3.krn.nodes (by omega);obtain⟨rfl,rfl⟩:b2=b'∧0=o':=by
         have:=HA2.out.symm.trans e1;injection this with this
         injection this with e3 e4
         exact⟨e3,e4⟩
        obtain⟨z0,z1,z2,z3⟩:=hcell n hlt';obtain⟨y,hy⟩:∃ y,y=k.nodes[n]:=⟨_,rfl⟩;have HD:=Lib.hid (Bzs (p:=fun y:Nod=>y.kind == 0) hlt');rw[←hy] at z0 z1 z2 z3 HD;simp only[Nat.zero_add] at z0 z1 z2 z3;have hn8:(n:Int)<8:=by omega
        have HLT:=Lib.hid hlt';clear hcell e1 hy hlt';cases hk:(y.kind == 0) with
        | false=>
          have HG:Hid (Dzm k=idxF (fun y:Nod=>y.kind == 0) (k.nodes.drop (n+1)) (n+1)):=by show _=_;rw[HE.out,HD.out,hk];rfl
          clear hK3;go_wp2;go_round
          case rel=>exact⟨n+1,by omega,by go_num,HG⟩
          case measure=>simp[intOf];omega
        | true=>
          have HF4:Dzm k=(n:Int):=by rw[HE.out,HD.out,hk];rfl
          have HV:=Lib.hid (Hzt (k:=k) (x:=x) HNM.out HF2.out HBAD.out HF4);clear HF4;obtain⟨n0,n1,n2,n3⟩:=HN3.out.c4;obtain⟨-, -,nf, -,nl⟩:=HN3.out.a2;clear hK3;go_wp2_with fail;have HV5:=Lib.hid (HV3.out.setCell (p:=⟨w.heap.size,0,none⟩) (Nat.le_refl _) (.string s));have hK5:=H0.out.below HV5.out;have hN5:=HN3.out.set_ 0 (.string s);have hR5:=HR3.out.far (p:=⟨w.heap.size,0,none⟩) (by simp) (.string s);simp at hN5;clear n0 n1 n2 n3 nf nl HR3 HN3 HV3 c0 c1 c2 c3 c4 gl z0 z1 z2 z3 hbB';generalize W3.setCell ⟨w.heap.size,0,none⟩ (.string s)=W5 at*;obtain⟨n0,n1,n2,n3⟩:=hN5.c4;have nl:=hN5.lt;obtain⟨c0,c1,c2,c3,c4⟩:=hK5.c5;have gl:=hK5.blk.lt;rw[l2,HA2.out] at c2;have hn2:=hK5.cp.nodes;rw[HA2.out] at hn2;have f0:=hn2.frozenAt (n*4);have f1:=hn2.frozenAt (n*4+1);have f2:=hn2.frozenAt (n*4+2);have f3:=hn2.frozenAt (n*4+3);obtain⟨b',o',e1,hbB',hcell⟩:=hK5.krn.nodes (by have:=HLT.out;omega);obtain⟨rfl,rfl⟩:b2=b'∧0=o':=by
           have:=HA2.out.symm.trans e1;injection this with this
           injection this with e3 e4
           exact⟨e3,e4⟩
          obtain⟨z0,z1,z2,z3⟩:=hcell n HLT.out;simp only[Nat.zero_add] at z0 z1 z2 z3;have HK5:=Lib.hid hK5;have HR5:=Lib.hid hR5;clear hN5 hR5 hn2 e1 hcell c0 c1 c3 c4 hK5;go_still_tail 7,(by kernel_rfl);change wpList _ _ _ _ _ W5.drew;have hfin:=Lib.hid ((HK5.out.below (Below.drewN' (Below.refl _ W5) 1)).nodeAll HA2.out HLT.out ({ x with name:=s }:Nod));have hgb:w.heap.size+1≠b2:=by omega
          have HR6:=Lib.hid ((((HR5.out.drew.far (p:=⟨b2,n*4,none⟩) hgb (.string s)).far (p:=⟨b2,n*4+1,none⟩) hgb (.int .i64 x.kind)).far (p:=⟨b2,n*4+2,none⟩) hgb (.string x.data)).far (p:=⟨b2,n*4+3,none⟩) hgb (.int .i64 x.unit));have HB6:=Lib.hid ((Fr.drewN (Fr.low HV5.out (Nat.le_of_lt H0.out.lt)) 1).trans hfin.out.2);go_upto_region 13 with fail
          refine(show ∀ W7:World,KS B W7 g a (setNod k n { x with name:=s }) ms es→Blk W7 (w.heap.size+1) 36 #[.int .i64 0, .int .i64 0, .string ⟨#[]⟩]→Fr B w W7→Code.wp _ _ _ _ W7 from ?_) _ hfin.out.1 HR6.out HB6.out;clear hfin HR6 HB6 HK5 HR5 f0 f1 f2 f3 z0 z1 z2 z3 HV5 nl gl c2 n0 n1 n2 n3 hbB' hgb;intro W7 hK7 hR7 hB7;obtain⟨r0,r1,r2,rf0,rf1,rf2,rl⟩:=hR7.a3;simp at r0 r1 r2;have HK7:=Lib.hid (hK7.ans3 hR7 (Nat.le_succ_of_le (Nat.le_of_lt H0.out.lt)) (.int .i64 0) (.int .i64 (n:Int)) (.string ⟨#[]⟩));have HB7:=Lib.hid hB7;clear hK7 hR7 hB7;go_wp2;refine bodyPost_ret (v:= .agg #[.int .i64 0, .int .i64 (n:Int), .string ⟨#[]⟩]) (by simp[results,Tryz.results24,go_sem,r0,r1,r2]) rfl ?_;unfold Czy;rw[HV.out];exact⟨rfl,HK7.out.1,HB7.out.ans3 (Nat.le_succ _) (Nat.le_of_lt H0.out.lt) _ _ _⟩
       ·have HV:=Lib.hid (Fz4 (k:=k) (x:=x) HNM.out HF2.out HBAD.out (by rw[HE.out,List.drop_of_length_le (by omega)];simp[idxF]))
        obtain⟨r0,r1,r2,rf0,rf1,rf2,rl⟩:=HR3.out.a3;simp at r0 r1 r2;clear HE;go_wp2;refine bodyPost_ret (v:= .agg #[.int .i64 8, .int .i64 0, .string ⟨#[]⟩]) (by simp[results,Tryz.results24,go_sem,r0,r1,r2]) rfl ?_;unfold Czy;rw[HV.out];exact⟨rfl,HFIN.out _ _ _ HV3.out⟩
     ·rw[q2] at C2
      clear q2;go_wp2;refine Azb (by kernel_rfl) (by kernel_rfl) ?_
      repeat (go_big_quiet_step ((rename_i X;exact Calls.calm_same (C2.out X))))
      refine wpQuiet_nil ?_;rintro W3 ⟨⟨_,hb3⟩,rfl⟩;rename_i W3;have HV3:=Lib.hid (HV2.out.trans (hb3.mono HV2.out.size));have HR3:=Lib.hid (HR2.out.below hb3 HR2.out.lt);have HN3:=Lib.hid (HN2.out.below hb3 HN2.out.lt);clear r0 r1 r2 rf0 rf1 rf2 rl n0 n1 n2 n3 nl c0 c1 c2 c3 c4 gl hb3 HR2 HN2 HV2;have HVF:Hid (Dzm k=idxF (fun y:Nod=>y.kind == 0) k.nodes 0):=rfl;go_wp2;go_loop [7] (fun i=>Cnt 8 i fun n=>Hid (Dzm k=idxF (fun y:Nod=>y.kind == 0) (k.nodes.drop n) n)) (fun i=>8 - (intOf i).toNat)
      case atStart=>exact⟨0,Nat.zero_le _,rfl,HVF⟩
      case round=>
       obtain⟨n,hn,rfl,HE⟩:=hrel;by_cases hlt:n<8
       ·have hlt':n<k.nodes.length:=by omega
        have hK3:=H0.out.below HV3.out;obtain⟨c0,c1,c2,c3,c4⟩:=hK3.c5;have gl:=hK3.blk.lt;rw[l2,HA2.out] at c2;obtain⟨b',o',e1,hbB',hcell⟩:=hK3.krn.nodes (by omega);obtain⟨rfl,rfl⟩:b2=b'∧0=o':=by
         have:=HA2.out.symm.trans e1;injection this with this
         injection this with e3 e4
         exact⟨e3,e4⟩
        obtain⟨z0,z1,z2,z3⟩:=hcell n hlt';obtain⟨y,hy⟩:∃ y,y=k.nodes[n]:=⟨_,rfl⟩;have HD:=Lib.hid (Bzs (p:=fun y:Nod=>y.kind == 0) hlt');rw[←hy] at z0 z1 z2 z3 HD;simp only[Nat.zero_add] at z0 z1 z2 z3;have hn8:(n:Int)<8:=by omega
        have HLT:=Lib.hid hlt';clear hcell e1 hy hlt';cases hk:(y.kind == 0) with
        | false=>
          have HG:Hid (Dzm k=idxF (fun y:Nod=>y.kind == 0) (k.nodes.drop (n+1)) (n+1)):=by show _=_;rw[HE.out,HD.out,hk];rfl
          clear hK3;go_wp2;go_round
          case rel=>exact⟨n+1,by omega,by go_num,HG⟩
          case measure=>simp[intOf];omega
        | true=>
          have HF4:Dzm k=(n:Int):=by rw[HE.out,HD.out,hk];rfl
          have HV:=Lib.hid (Hzt (k:=k) (x:=x) HNM.out HF2.out HBAD.out HF4);clear HF4;obtain⟨n0,n1,n2,n3⟩:=HN3.out.c4;obtain⟨-, -,nf, -,nl⟩:=HN3.out.a2;clear hK3;go_wp2_with fail;have HV5:=Lib.hid (HV3.out.setCell (p:=⟨w.heap.size,0,none⟩) (Nat.le_refl _) (.string s));have hK5:=H0.out.below HV5.out;have hN5:=HN3.out.set_ 0 (.string s);have hR5:=HR3.out.far (p:=⟨w.heap.size,0,none⟩) (by simp) (.string s);simp at hN5;clear n0 n1 n2 n3 nf nl HR3 HN3 HV3 c0 c1 c2 c3 c4 gl z0 z1 z2 z3 hbB';generalize W3.setCell ⟨w.heap.size,0,none⟩ (.string s)=W5 at*;obtain⟨n0,n1,n2,n3⟩:=hN5.c4;have nl:=hN5.lt;obtain⟨c0,c1,c2,c3,c4⟩:=hK5.c5;have gl:=hK5.blk.lt;rw[l2,HA2.out] at c2;have hn2:=hK5.cp.nodes;rw[HA2.out] at hn2;have f0:=hn2.frozenAt (n*4);have f1:=hn2.frozenAt (n*4+1);have f2:=hn2.frozenAt (n*4+2);have f3:=hn2.frozenAt (n*4+3);obtain⟨b',o',e1,hbB',hcell⟩:=hK5.krn.nodes (by have:=HLT.out;omega);obtain⟨rfl,rfl⟩:b2=b'∧0=o':=by
           have:=HA2.out.symm.trans e1;injection this with this
           injection this with e3 e4
           exact⟨e3,e4⟩
          obtain⟨z0,z1,z2,z3⟩:=hcell n HLT.out;simp only[Nat.zero_add] at z0 z1 z2 z3;have HK5:=Lib.hid hK5;have HR5:=Lib.hid hR5;clear hN5 hR5 hn2 e1 hcell c0 c1 c3 c4 hK5;go_still_tail 7,(by kernel_rfl);change wpList _ _ _ _ _ W5.drew;have hfin:=Lib.hid ((HK5.out.below (Below.drewN' (Below.refl _ W5) 1)).nodeAll HA2.out HLT.out ({ x with name:=s }:Nod));have hgb:w.heap.size+1≠b2:=by omega
          have HR6:=Lib.hid ((((HR5.out.drew.far (p:=⟨b2,n*4,none⟩) hgb (.string s)).far (p:=⟨b2,n*4+1,none⟩) hgb (.int .i64 x.kind)).far (p:=⟨b2,n*4+2,none⟩) hgb (.string x.data)).far (p:=⟨b2,n*4+3,none⟩) hgb (.int .i64 x.unit));have HB6:=Lib.hid ((Fr.drewN (Fr.low HV5.out (Nat.le_of_lt H0.out.lt)) 1).trans hfin.out.2);go_upto_region 13 with fail
          refine(show ∀ W7:World,KS B W7 g a (setNod k n { x with name:=s }) ms es→Blk W7 (w.heap.size+1) 36 #[.int .i64 0, .int .i64 0, .string ⟨#[]⟩]→Fr B w W7→Code.wp _ _ _ _ W7 from ?_) _ hfin.out.1 HR6.out HB6.out;clear hfin HR6 HB6 HK5 HR5 f0 f1 f2 f3 z0 z1 z2 z3 HV5 nl gl c2 n0 n1 n2 n3 hbB' hgb;intro W7 hK7 hR7 hB7;obtain⟨r0,r1,r2,rf0,rf1,rf2,rl⟩:=hR7.a3;simp at r0 r1 r2;have HK7:=Lib.hid (hK7.ans3 hR7 (Nat.le_succ_of_le (Nat.le_of_lt H0.out.lt)) (.int .i64 0) (.int .i64 (n:Int)) (.string ⟨#[]⟩));have HB7:=Lib.hid hB7;clear hK7 hR7 hB7;go_wp2;refine bodyPost_ret (v:= .agg #[.int .i64 0, .int .i64 (n:Int), .string ⟨#[]⟩]) (by simp[results,Tryz.results24,go_sem,r0,r1,r2]) rfl ?_;unfold Czy;rw[HV.out];exact⟨rfl,HK7.out.1,HB7.out.ans3 (Nat.le_succ _) (Nat.le_of_lt H0.out.lt) _ _ _⟩
       ·have HV:=Lib.hid (Fz4 (k:=k) (x:=x) HNM.out HF2.out HBAD.out (by rw[HE.out,List.drop_of_length_le (by omega)];simp[idxF]))
        obtain⟨r0,r1,r2,rf0,rf1,rf2,rl⟩:=HR3.out.a3;simp at r0 r1 r2;clear HE;go_wp2;refine bodyPost_ret (v:= .agg #[.int .i64 8, .int .i64 0, .string ⟨#[]⟩]) (by simp[results,Tryz.results24,go_sem,r0,r1,r2]) rfl ?_;unfold Czy;rw[HV.out];exact⟨rfl,HFIN.out _ _ _ HV3.out⟩
end
end Go.Proofs.YtdjamdbamkhblacGreatDoor
namespace Go.Proofs.YtdjamdbamkhblacGreatDoor
open Go.RowKit
set_option linter.unusedVariables false
set_option linter.unusedSimpArgs false
section
variable {P:Program} {ops:Array Oper} {C:World→Prop} {md:Region.Mode}
def Jzc (P:Program) (md:Region.Mode) (ops:Array Oper) (C:World→Prop) (n:Nat) (L:Array Bool→Act→Prop):Nat→Array Bool→Act→Prop
 | 0,listed,a=>L listed a
 | f+1,listed,a=>Region.ready md ops listed≠ []∧∀ i∈Region.ready md ops listed,i<n∧qOp P ops C i (Jzc P md ops C n L f (listed.setIfInBounds i true)) a
theorem Hz8 {n g:Nat} {L:Array Bool→Act→Prop} {Q':Exit→Act→World→Prop} (hL:∀ listed a w,C w→L listed a→wpAny P md ops Q' g listed a w):
  ∀ (f:Nat) (listed:Array Bool) (a:Act) (w:World),C w→Jzc P md ops C n L f listed a→wpAny P md ops Q' (f+g) listed a w
 | 0,listed,a,w,hw,h=>by rw[Nat.zero_add];exact hL _ _ _ hw h
 | f+1,listed,a,w,hw,h=>by
   rw[show f+1+g=(f+g)+1 by omega];exact⟨fun h0=>absurd h0 h.1,fun i hi=>wpOp_of_qOp hw (fun a' w' hw' h'=>Hz8 hL f _ a' w' hw' h') (h.2 i hi).2⟩
theorem Jzd {n i:Nat} {oi:Oper} {v:Value} {L:Array Bool→Act→Prop} (hi:ops[i]? =some oi) (hsel:∀ (j:Nat) (o:Oper) cs b,ops[j]? =some o→o.op≠ .select cs b)
  (hs:Region.sinkB md ops n=true) (hc:Region.chainB md ops n=true) (hn:n<ops.size) (hin:i<n)
  (hdone:∀ listed a,L listed a→∀ j∈Region.ready md ops listed,n≤j):
  ∀ (f:Nat) (listed:Array Bool) (a:Act),HeadInv md ops n listed→
   (∀ j oj,ops[j]? =some oj→j≠i→listed.getD j true=false→(∀ e∈oj.after,Region.binds md e=true→e.on≠i)→oi.apart ops oj=true)→
   i∈Region.ready md ops listed→YieldsIn P ops C oi v a→
   Jzc P md ops C n L f (listed.setIfInBounds i true) (a.put oi.dst v)→Jzc P md ops C n L (f+1) listed a:=by
 intro f
 induction f with
 | zero=>
   intro listed a inv _ hr hy H;have hun:=(mem_ready.1 hr).1;refine⟨fun h=>(by rw[h] at hr;cases hr),fun j hj=>?_⟩;have hjn:j<n:=by
    rcases Nat.lt_or_ge j n with h|h
    ·exact h
    ·exact absurd hj (tail_waits hs hc hn inv _ i rfl hin hun j h)
   refine⟨hjn,?_⟩;by_cases hji:j=i
   ·subst hji;exact hy.qOp hi H
   ·have:=hdone _ _ H j (ready_mono hj hji)
    omega
 | succ f ih=>
   intro listed a inv hfree hr hy H;have hun:=(mem_ready.1 hr).1;refine⟨fun h=>(by rw[h] at hr;cases hr),fun j hj=>?_⟩;have hjn:j<n:=by
    rcases Nat.lt_or_ge j n with h|h
    ·exact h
    ·exact absurd hj (tail_waits hs hc hn inv _ i rfl hin hun j h)
   refine⟨hjn,?_⟩;by_cases hji:j=i
   ·subst hji;exact hy.qOp hi H
   ·have h1:=(H.2 j (ready_mono hj hji)).2
    obtain⟨hjun,oj,hoj,hall⟩:=mem_ready.1 hj;have hnot:∀ e∈oj.after,Region.binds md e=true→e.on≠i:=fun e he hb heq=>by
     have h1:=hall e he hb;rw[heq,getD_both hun] at h1;cases h1
    have h2:=qOp_put hoj (hfree j oj hoj hji hjun hnot) (fun cs b=>hsel i oi cs b hi) (fun cs b=>hsel j oj cs b hoj) hy h1;have hfree':∀ k ok,ops[k]? =some ok→k≠i→(listed.setIfInBounds j true).getD k true=false→
      (∀ e∈ok.after,Region.binds md e=true→e.on≠i)→oi.apart ops ok=true:=fun k ok hk hki hun hno=>by
     refine hfree k ok hk hki ?_ hno;by_cases hjk:j=k
     ·subst hjk;exact hjun
     ·rw[getD_set_ne true hjk] at hun;exact hun
    refine qOp_mono (fun a' h3=>ih (listed.setIfInBounds j true) a' (inv.set hj hjn) hfree' (ready_mono hr (Ne.symm hji)) h3.1 ?_) h2;rw[Array.setIfInBounds_comm _ _ hji];exact h3.2
theorem Hz7 {n g:Nat} {Lq:Act→Prop} (hsel:Region.noSelect ops=true) (hs:Region.sinkB md ops n=true) (hc:Region.chainB md ops n=true) (hn:n<ops.size):
  ∀ (l:List Oper) (k:Nat) (listed:Array Bool) (a:Act),(∀ j,j<l.length→l[j]? =ops[k+j]?)→k+l.length=n→HeadInv md ops n listed→
  Region.lexHead md ops g l.length k listed=true→wpQuiet P ops C Lq l a→
  Jzc P md ops C n (fun listed' a'=>Region.seqB md ops g n listed'=true∧Lq a') l.length listed a
 | [],k,listed,a,_,hk,_,hB,h=>by
   have:k=n:=by simpa using hk
   subst this;exact⟨by simpa [Region.lexHead] using hB,h⟩
 | o::l,k,listed,a,hl,hk,inv,hB,h=>by
   have h0:ops[k]? =some o:=by simpa using(hl 0 (by simp)).symm
   simp only[List.length_cons,Region.lexHead,Bool.and_eq_true] at hB;obtain⟨⟨hr,hf⟩,hB'⟩:=hB;have hkn:k<n:=by simp only[List.length_cons] at hk;omega
   have hr':k∈Region.ready md ops listed:=by simpa using hr
   have hst:qOp P ops C k (wpQuiet P ops C Lq l) a:=by unfold qOp;simp only[h0];exact h
   obtain⟨v,hy,hK⟩:=yieldsIn_of_qOp h0 hst;exact Jzd h0 (Region.noSelect_spec hsel) hs hc hn hkn (fun listed' a' hL=>seqB_ready hL.1) l.length listed a inv (Region.free_spec h0 hf) hr' hy
    (Hz7 hsel hs hc hn l (k+1) _ _ (fun j hj=>by have:=hl (j+1) (by simp;omega);simpa [Nat.add_assoc,Nat.add_comm 1 j] using this) (by simp only[List.length_cons] at hk;omega) (inv.set hr' hkn) hB' hK)
end
theorem Ez6 {P:Program} {id:Nat} {Q:Exit→Act→World→Prop} {a:Act} {w:World} {l:List Oper} (n:Nat) (hm:P.follows .mixedOrders=true) (hB:Region.lexTailB .any l.toArray n=true)
  (h:wpQuiet P l.toArray (fun w'=>∃ x:After w,w'=x.w') (fun a'=>∀ w':World,Below w.heap.size w w'→wpList P l.toArray Q (l.drop n) a' w') (l.take n) a):(Code.region id l.toArray true).wp P Q a w:=by
 simp only[Region.lexTailB,Bool.and_eq_true,decide_eq_true_eq] at hB;obtain⟨⟨⟨⟨hsel,hn⟩,hs⟩,hc⟩,hlex⟩:=hB;have hn':n<l.length:=by simpa using hn
 have htl:(l.take n).length=n:=by simp;omega
 have hdl:(l.drop n).length=l.toArray.size - n:=by simp
 have inv0:HeadInv .any l.toArray n (Array.replicate l.toArray.size false):=
  ⟨by simp,fun j oj _ hl=>(by rw[getD_replicate_false] at hl;cases hl),fun t _ ht=>getD_in (by simpa using ht) (getD_replicate_false _ _)⟩
 have H:=Hz7 (md:= .any) (g:=l.toArray.size - n) hsel hs hc hn (l.take n) 0 _ a (fun j hj=>by
  have hj':j<n:=by rw[htl] at hj;exact hj
  simp[hj']) (by simpa using htl) inv0 (by rw[htl];exact hlex) h
 refine wp_region_any hm ?_;have:=Hz8 (Q':=Q) (g:=l.toArray.size - n) (fun listed a' w' hw hL=>by
  obtain⟨x,rfl⟩:=hw;have:=wpAny_of_seq (md:= .any) (Q':=Q) (l.drop n) n listed a' x.w' (fun j=>by simp[List.getElem?_drop]) (by rw[hdl];exact hL.1) (hL.2 _ x.h)
  rwa [hdl] at this) _ _ _ { w with drawn:=w.drawn+1 } ⟨⟨_,Below.drewN' (Below.refl _ w) 1⟩,rfl⟩ H
 rw[htl,show n+(l.toArray.size - n)=l.toArray.size by omega] at this;exact this
end Go.Proofs.YtdjamdbamkhblacGreatDoor
