/- The walk of the reference's KernelFault: what it answers, for every kernel. -/
import Derived.Test.YtdjamdbamkhblacGreatDoorMayRef
import Derived.Test.YtdjamdbamkhblacGreatDoorKCheckW
set_option maxHeartbeats 8000000
set_option maxRecDepth 100000
namespace Go.Proofs.YtdjamdbamkhblacGreatDoor
open Go.RowKit
set_option linter.unusedVariables false
set_option linter.unusedSimpArgs false
attribute [local go_sem] After.cell
def Cnt2 (N:Nat) (q i:Value) (p:Bool→Nat→Prop):Prop:=∃ (v:Bool) (n:Nat),n≤N∧q= .bool v∧i= .int .i64 n∧p v n
theorem Lzo (k:Krn) (a:KA) (w:World) (h:8<k.mods.length∨k.mem.length≠1024∨k.nodes.length≠8∨k.pipes.length≠6∨k.procs.length≠4):
  Calls Tryz.prog 20 #[.agg (a.cells k)] w fun e w'=>e= .returned (.int .i64 (Azm k))∧Below w.heap.size w w':=by
 have HV:=Lib.hid (Gzx h);have HB:=Lib.hid (fun o=>Az6 w o);unfold KA.cells;by_cases h0:8<k.mods.length
 ·have h0':(8:Int)<(k.mods.length:Int):=by omega
  clear h h0;go_enter Tryz.func20,Tryz.ntmps20;go_wp2;go_ret;exact⟨Az8 HV.out.symm,HB.out _⟩
 have h0':(k.mods.length:Int)≤8:=by omega
 by_cases h1:k.mem.length≠1024
 ·have h1':((k.mem.length:Int) != 1024)=true:=by rw[bne_iff_ne];omega
  clear h h0 h1;go_enter Tryz.func20,Tryz.ntmps20;go_wp2;go_ret;exact⟨Az8 HV.out.symm,HB.out _⟩
 have h:=(h.resolve_left h0).resolve_left h1;have h1:=Decidable.not_not.1 h1;rw[h1];by_cases h2:k.nodes.length≠8
 ·have h2':((k.nodes.length:Int) != 8)=true:=by rw[bne_iff_ne];omega
  clear h h0 h1 h2;go_enter Tryz.func20,Tryz.ntmps20;go_wp2;go_ret;exact⟨Az8 HV.out.symm,HB.out _⟩
 have h:=h.resolve_left h2;have h2:=Decidable.not_not.1 h2;rw[h2];by_cases h3:k.pipes.length≠6
 ·have h3':((k.pipes.length:Int) != 6)=true:=by rw[bne_iff_ne];omega
  clear h h0 h1 h2 h3;go_enter Tryz.func20,Tryz.ntmps20;go_wp2;go_ret;exact⟨Az8 HV.out.symm,HB.out _⟩
 have h:=h.resolve_left h3;have h3:=Decidable.not_not.1 h3;rw[h3];have h4':((k.procs.length:Int) != 4)=true:=by rw[bne_iff_ne];omega
 clear h h0 h1 h2 h3;go_enter Tryz.func20,Tryz.ntmps20;go_wp2;go_ret;exact⟨Az8 HV.out.symm,HB.out _⟩
theorem Lzp (k:Krn) (a:KA) (w:World) (hK:KrnAt w w.heap.size a k) (hS:k.small) (h0:k.mods.length≤8) (h1:k.mem.length=1024) (h2:k.nodes.length=8) (h3:k.pipes.length=6) (h4:k.procs.length=4):
  Calls Tryz.prog 20 #[.agg (a.cells k)] w fun e w'=>e= .returned (.int .i64 (Azm k))∧Below w.heap.size w w':=by
 have HV:=Lib.hid (Gzy h0 h1 h2 h3 h4);have hB0:=Az6 w (.cells (a.cells k) 30);have HK:=Lib.hid ((hK.below hB0).more hB0.size);have HX:=Lib.hid (Blk.new w 30 (a.cells k));have hlt0:=HX.out.lt;have HB:=Lib.hid hB0;unfold KA.cells at HK HX hlt0 HB ⊢;rw[h1,h2,h3,h4] at HK HX hlt0 HB ⊢;have h0i:(k.mods.length:Int)≤8:=by omega
 clear hK hB0;go_enter Tryz.func20,Tryz.ntmps20;go_wp2;generalize w.alloc (.cells #[.slice a.a0 k.mods.length a.c0, .slice a.a1 1024 a.c1, .slice a.a2 8 a.c2, .slice a.a3 6 a.c3, .slice a.a4 4 a.c4] 30)=W0 at*;go_loopw [3] (fun i wr=>Cnt k.mods.length i fun n=>Below W0.heap.size W0 wr∧Hid (Cz8 [] k.mods=Cz8 (k.mods.take n) (k.mods.drop n))) (fun i _=>k.mods.length - (intOf i).toNat)
 case atStart=>exact⟨0,Nat.zero_le _,rfl,Below.refl _ _,by show _=_;simp⟩
 case round=>
  obtain⟨n,hn,rfl,hb,HE⟩:=hrel;by_cases hlt:n<k.mods.length
  ·obtain⟨b,o,e1,hbB,hcell⟩:=(HK.out.mods.below hb) (by omega)
   obtain⟨A1,c1,A2,c2,z0,z1,z2,z3⟩:=hcell n hlt;obtain⟨m,hm⟩:∃ m,m=k.mods[n]:=⟨_,rfl⟩;have HD:=Lib.hid (Hz2 hlt);rw[←hm] at z0 z1 z2 z3 HD;have hbs:b<wr.heap.size:=Nat.lt_of_lt_of_le hbB hb.size;obtain⟨c0, -, -, -,hk0⟩:=(HX.out.below hb hlt0).a2;simp at c0;rw[e1] at c0;have HZ:=Lib.hid (z3.more hb.size);have HM:=Lib.hid (Fzh m A1 A2 c1 c2 wr (by have:=HZ.out.nm;unfold maxLen;omega) HZ.out.code HZ.out.data (by have:=HZ.out.cl;unfold maxLen;omega) (by have:=HZ.out.dl;unfold maxLen;omega));have HW:=Lib.hid hb;have HE1:=Lib.hid e1;have HN1:=Lib.hid hm;clear hcell z3 hb e1 hm HZ;by_cases hmc:Az7 m=0
   ·rw[hmc] at HM
    have HF:Hid (Cz8 [] k.mods=if (k.mods.take n).any (fun x=>x.name == m.name) then 7 else Cz8 (k.mods.take (n+1)) (k.mods.drop (n+1))):=by show _=_;rw[HE.out,HD.out,if_pos hmc]
    clear hmc;go_wp2_with fail;refine HM.out.mono ?_;rintro e w1 ⟨rfl,hb1⟩;have hw1:=HW.out.trans (hb1.mono HW.out.size);have y0:=(hb1.cell (p:=⟨b,_,none⟩) hbs).trans z0;have hbs1:b<w1.heap.size:=Nat.lt_of_lt_of_le hbs hb1.size;have HW1:=Lib.hid hw1;clear hw1 hb1 HM HW z0 z1 z2 c0 hk0;go_wp2;go_loopw [5] (fun q wr=>Cnt n q fun j=>Below w1.heap.size w1 wr∧Hid ((k.mods.take n).any (fun x=>x.name == m.name)=((k.mods.take n).drop j).any fun x=>x.name == m.name)) (fun q _=>n - (intOf q).toNat)
    case atStart=>exact⟨0,Nat.zero_le _,rfl,Below.refl _ _,rfl⟩
    case round=>
     obtain⟨j,hj,rfl,hb,HQ⟩:=hrel;have hw:=HW1.out.trans (hb.mono HW1.out.size);by_cases hjn:j<n
     ·obtain⟨b',o',e2,hbB',hcell⟩:=(HK.out.mods.below hw) (by omega)
      obtain⟨rfl,rfl⟩:b=b'∧o=o':=by have:=HE1.out.symm.trans e2;injection this with this;injection this with e3 e4;exact⟨e3,e4⟩
      have hjm:j<k.mods.length:=by omega
      obtain⟨_,_,_,_,x0,hrest⟩:=hcell j hjm;obtain⟨y,hy⟩:∃ y,y=k.mods[j]:=⟨_,rfl⟩;have HDQ:Hid (((k.mods.take n).drop j).any (fun x=>x.name == m.name)=((y.name == m.name) || ((k.mods.take n).drop (j+1)).any fun x=>x.name == m.name)):=by
       show _=_;rw[Dz7 (by rw[List.length_take];omega),List.getElem_take,hy]
      rw[←hy] at x0;have yq:=(hb.cell (p:=⟨b,_,none⟩) hbs1).trans y0;have hbs2:b<wr.heap.size:=Nat.lt_of_lt_of_le hbs1 hb.size;obtain⟨c0, -, -, -,hk0⟩:=(HX.out.below hw hlt0).a2;simp at c0;rw[e2] at c0;have hjI:(j:Int)<(k.mods.length:Int):=by omega
      have HW2:=Lib.hid hw;have HBQ:=Lib.hid hb;clear hrest hcell e2 hy hjm hb hw y0;cases hk:(y.name == m.name) with
      | true=>
        have HF1:Hid (Cz8 [] k.mods=7):=by show _=_;rw[HF.out,if_pos (by rw[HQ.out,HDQ.out,hk];rfl)]
        have HG:Hid (Azm k=7):=by show _=_;rw[HV.out,HF1.out];rfl
        have hk':(y.name.toList == m.name.toList)=true:=by rw[bs_l];exact hk
        clear hk;go_wp2;go_quiet (fail);have hf:=HB.out.trans ((Below.drewN' HW2.out nq).mono (Nat.le_of_lt hlt0));go_wp2;go_ret;exact⟨Az8 HG.out.symm,hf⟩
      | false=>
        have HG:Hid ((k.mods.take n).any (fun x=>x.name == m.name)=((k.mods.take n).drop (j+1)).any fun x=>x.name == m.name):=by show _=_;rw[HQ.out,HDQ.out,hk];rfl
        have hk':(y.name.toList == m.name.toList)=false:=by rw[bs_l];exact hk
        clear hk;go_wp2;go_quiet (fail);have hf:=Below.drewN' HBQ.out nq;go_wp2;go_roundw
        case rel=>exact⟨j+1,by omega,by go_num,hf,HG⟩
        case measure=>simp[intOf];omega
     ·have HG:Hid (Cz8 [] k.mods=Cz8 (k.mods.take (n+1)) (k.mods.drop (n+1))):=by
       show _=_;rw[HF.out,if_neg];rw[HQ.out,List.drop_of_length_le (by rw[List.length_take];omega)];simp
      clear hb HQ;go_wp2;go_roundw
      case rel=>exact⟨n+1,by omega,by go_num,hw,HG⟩
      case measure=>simp[intOf];omega
   ·have hmn:(Az7 m != 0)=true:=by rw[bne_iff_ne];exact hmc
    have HF:Hid (Cz8 [] k.mods=Az7 m):=by show _=_;rw[HE.out,HD.out,if_neg hmc]
    have HG:Hid (Azm k=Az7 m):=by show _=_;rw[HV.out,HF.out,if_neg hmc]
    clear hmc;go_wp2_with fail;refine HM.out.mono ?_;rintro e w1 ⟨rfl,hb1⟩;have hf:=HB.out.trans ((HW.out.trans (hb1.mono HW.out.size)).mono (Nat.le_of_lt hlt0));go_wp2;go_ret;exact⟨Az8 HG.out.symm,hf⟩
  ·obtain rfl:n=k.mods.length:=by omega
   have HF:Hid (Azm k=(if k.mem.any oddW then 2 else if anyI (Azn k) k.nodes 0 || k.procs.any (Azt k) || anyI (Azu k) k.pipes 0 then 9 else 0)):=by
    show _=_;rw[HV.out,if_pos (by rw[HE.out,List.take_length,List.drop_length];rfl)]
   obtain⟨c0,c1, -, -,hk0⟩:=(HX.out.below hb hlt0).a2;simp at c0 c1;have HCF:=Lib.hid (Bzr a.a1 a.c1 k.mem wr ((HK.out.mem.below hb).more hb.size) (by rw[h1];unfold maxLen;omega));rw[h1] at HCF;have HW:=Lib.hid hb;clear HE HV hb hlt hn;cases hd:k.mem.any oddW with
   | true=>
     rw[hd] at HCF HF;clear hd;go_wp2_with fail;refine HCF.out.mono ?_;rintro e w1 ⟨rfl,rfl⟩;have hf:=HB.out.trans (HW.out.mono (Nat.le_of_lt hlt0));go_wp2;go_ret;exact⟨Az8 HF.out.symm,hf⟩
   | false=>
     rw[hd] at HCF;have HV:Hid (Azm k=(if anyI (Azn k) k.nodes 0 || k.procs.any (Azt k) || anyI (Azu k) k.pipes 0 then 9 else 0)):=by show _=_;rw[HF.out,hd];rfl
     clear hd HF;go_wp2_with fail;refine HCF.out.mono ?_;rintro e w1 ⟨rfl,rfl⟩;clear HCF c1 c0 hk0;go_wp2;obtain⟨R1,hR1⟩:∃ R,R= !anyI (Azn k) k.nodes 0:=⟨_,rfl⟩;have HR1:=Lib.hid hR1;clear hR1;go_loopw [6,7] (fun q i wr=>∃ (v:Bool) (n:Nat),n≤8∧q= .bool v∧i= .int .i64 n∧Below W0.heap.size W0 wr∧Hid (R1=(v && !anyI (Azn k) (k.nodes.drop n) n))) (fun _ i _=>8 - (intOf i).toNat)
     case atStart=>exact⟨true,0,by omega,rfl,rfl,HW.out,by show _=_;rw[HR1.out];simp⟩
     case round=>
      clear HW;obtain⟨v,n,hn,rfl,rfl,hb,HE⟩:=hrel;by_cases hlt:n<8
      ·cases v with
       | false=>
         have HG:Hid (R1=(false && !anyI (Azn k) (k.nodes.drop (n+1)) (n+1))):=by show _=_;rw[HE.out];rfl
         go_wp2;go_roundw
         case rel=>exact⟨false,n+1,by omega,rfl,by go_num,hb,HG⟩
         case measure=>simp[intOf];omega
       | true=>
         have hlt':n<k.nodes.length:=by omega
         have HD:=Lib.hid (Ezc (p:=Azn k) hlt');have hsz:=hS.nodes _ (List.getElem_mem hlt');obtain⟨c0,c1,c2,c3,c4⟩:=(HX.out.below hb hlt0).c5;have hk0:=(HX.out.below hb hlt0).lt;have HN:=Lib.hid (Kz1 (.slice a.a1 1024 a.c1) (.slice a.a3 6 a.c3) k a.a0 a.a2 a.a4 a.c0 a.c2 a.c4 n wr ((HK.out.nodes.below hb).more hb.size) ((HK.out.procs.below hb).more hb.size) h2 h4 h0 hlt' hsz.2 hsz.1);rw[h2,h4] at HN;obtain⟨v',hv'⟩:∃ v',v'= !Azn k n k.nodes[n]:=⟨_,rfl⟩;rw[←hv'] at HN;have HG:Hid (R1=(v' && !anyI (Azn k) (k.nodes.drop (n+1)) (n+1))):=by
          show _=_;rw[HE.out,HD.out,hv'];cases Azn k n k.nodes[n]<;>rfl
         have HW:=Lib.hid hb;clear hv' hsz hb HD hlt';go_wp2_with fail;refine HN.out.mono ?_;rintro e w1 ⟨rfl,hb1⟩;have hf:=HW.out.trans (hb1.mono HW.out.size);go_wp2;go_roundw
         case rel=>exact⟨v',n+1,by omega,rfl,by go_num,hf,HG⟩
         case measure=>simp[intOf];omega
      ·obtain rfl:n=8:=by omega
       have HV1:Hid (R1=v):=by
        show _=_;rw[HE.out,List.drop_of_length_le (by omega)];simp[anyI]
       obtain⟨R2,hR2⟩:∃ R,R=(v && !k.procs.any (Azt k)):=⟨_,rfl⟩;have HR2:=Lib.hid hR2;have HW:=Lib.hid hb;clear hR2 hb HE hlt hn;go_wp2;go_loopw [6,8] (fun q i wr=>∃ (v:Bool) (n:Nat),n≤4∧q= .bool v∧i= .int .i64 n∧Below W0.heap.size W0 wr∧Hid (R2=(v && !(k.procs.drop n).any (Azt k)))) (fun _ i _=>4 - (intOf i).toNat)
       case atStart=>exact⟨v,0,by omega,rfl,rfl,HW.out,by show _=_;rw[HR2.out];simp⟩
       case round=>
        clear HW;rename_i HV1' _ _;obtain⟨v2,n,hn,rfl,rfl,hb,HE⟩:=hrel;by_cases hlt:n<4
        ·have hlt':n<k.procs.length:=by omega
         obtain⟨b,o,e1,hbB,hcell⟩:=(HK.out.procs.below hb) (by omega);obtain⟨A1,c1,z0,z1,hz⟩:=hcell n hlt';obtain⟨x,hx⟩:∃ x,x=k.procs[n]:=⟨_,rfl⟩;have HD:=Lib.hid (Dz7 (p:=Azt k) hlt');rw[←hx] at z0 z1 hz HD;have hbs:b<wr.heap.size:=Nat.lt_of_lt_of_le hbB hb.size;have hel:x.ends.length≤9223372036854775807:=by have:=hz.el;omega
         obtain⟨-, -, -, -,c4, -, -, -, -, -,hk0⟩:=(HX.out.below hb hlt0).a5;simp at c4;rw[e1] at c4;have hb1:=Az6 wr (.cells #[.bool x.live, .slice A1 x.ends.length c1] 52);have hMB:=Blk.new wr 52 #[.bool x.live, .slice A1 x.ends.length c1];have hw1:=hb.trans (hb1.mono hb.size);obtain⟨v3,hv3⟩:∃ v3,v3=(v2 && (x.ends.length == 6)):=⟨_,rfl⟩;obtain⟨R3,hR3⟩:∃ R,R=(v3 && !x.ends.any (fun y=> !endOk k y || (!x.live && (y.kind != 0)))):=⟨_,rfl⟩;have HG:Hid (R2=(R3 && !(k.procs.drop (n+1)).any (Azt k))):=by
          show _=_;rw[HE.out,HD.out,hR3,hv3];unfold Azt;cases v2<;>cases h6:(x.ends.length == 6)<;>simp[bne,h6]
         have HR3:=Lib.hid hR3;have HRE:=Lib.hid (((hz.ends.more hb.size).keep (fun _ hp=>hb1.cell hp)).more hb1.size);have HW1:=Lib.hid hw1;have HMB:=Lib.hid hMB;have HV3:=Lib.hid hv3;have hmz:wr.heap.size<(wr.alloc (.cells #[.bool x.live, .slice A1 x.ends.length c1] 52)).heap.size:=hMB.lt;clear hcell hz hb hb1 hw1 hMB hx hR3 hv3 e1 HD HE;have hcase:(v2=true∧(((x.ends.length:Int) == 6)=true)∧v3=true)∨(v2=true∧(((x.ends.length:Int) == 6)=false)∧v3=false)∨(v2=false∧v3=false):=by
          have:=HV3.out;cases v2
          ·exact .inr (.inr ⟨rfl,by simpa using this⟩)
          ·by_cases h6:x.ends.length=6
           ·exact .inl ⟨rfl,by rw[beq_iff_eq];omega,by rw[this,h6];rfl⟩
           ·exact .inr (.inl ⟨rfl,by rw[beq_eq_false_iff_ne];omega,by rw[this];simp[h6]⟩)
         clear HV3;rcases hcase with⟨rfl,h6,rfl⟩|⟨rfl,h6,rfl⟩|⟨rfl,rfl⟩
         all_goals
          go_wp2;generalize wr.alloc (.cells #[.bool x.live, .slice A1 x.ends.length c1] 52)=W2 at*;obtain⟨wo,rfl⟩:∃ wo,wo=wr:=⟨_,rfl⟩;go_loopw [6,10] (fun q i wq=>∃ (v:Bool) (m:Nat),m≤x.ends.length∧q= .bool v∧i= .int .i64 m∧Below W2.heap.size W2 wq∧Hid (R3=(v && !(x.ends.drop m).any (fun y=> !endOk k y || (!x.live && (y.kind != 0)))))) (fun _ i _=>x.ends.length - (intOf i).toNat)
          case atStart=>exact⟨_,0,by omega,rfl,rfl,Below.refl _ _,by show _=_;rw[HR3.out];simp⟩
          case round=>
           obtain⟨v,m,hm,rfl,rfl,hbq,HQ⟩:=hrel;have hwq:=HW1.out.trans (hbq.mono HW1.out.size);have hMq:=HMB.out.below hbq HMB.out.lt;obtain⟨d0,d1, -, -,hz2⟩:=hMq.a2;simp at d0 d1;by_cases hlm:m<x.ends.length
           ·cases v with
            | false=>
              have HG':Hid (R3=(false && !(x.ends.drop (m+1)).any (fun y=> !endOk k y || (!x.live && (y.kind != 0))))):=by show _=_;rw[HQ.out];rfl
              have HQW:=Lib.hid hbq;clear hbq hwq hMq;go_wp2;refine Azb (by kernel_rfl) (by kernel_rfl) ?_
              repeat (go_big_quiet_step ((rename_i X;exact Calls.calm (HEM.out X))))
              refine wpQuiet_nil ?_;rintro _ ⟨⟨w1,hb1⟩,rfl⟩;have hf:=HQW.out.trans (hb1.mono HQW.out.size);go_wp2;go_roundw
              case rel=>exact⟨false,m+1,by omega,rfl,by go_num,hf,HG'⟩
              case measure=>simp[intOf];omega
            | true=>
              obtain⟨b',o',rfl,hbB',hcell'⟩:=(HRE.out.below hbq) (by omega);obtain⟨y0,y1,y2⟩:=hcell' m hlm;obtain⟨y,hy⟩:∃ y,y=x.ends[m]:=⟨_,rfl⟩;have HDQ:=Lib.hid (Dz7 (p:=fun y=> !endOk k y || (!x.live && (y.kind != 0))) hlm);rw[←hy] at y0 y1 y2 HDQ;have hbs2:b'<wr.heap.size:=Nat.lt_of_lt_of_le hbB' hbq.size;obtain⟨q0,q1,q2,q3,q4⟩:=(HX.out.below hwq hlt0).c5;have hz3:=(HX.out.below hwq hlt0).lt;have HEM:Hid (∀ X:After wr,Calls Tryz.prog 60 #[.agg #[.slice a.a0 k.mods.length a.c0, .slice a.a1 1024 a.c1, .slice a.a2 k.nodes.length a.c2, .slice a.a3 6 a.c3, .slice a.a4 4 a.c4], .agg #[.int .i64 y.kind, .int .i64 y.node, .int .i64 y.pos]] X.w' fun e w'=>e= .returned (.bool (endOk k y))∧Below X.w'.heap.size X.w' w'):=
               fun X=>Lzu _ _ _ _ a.a2 a.c2 k y X.w' ((HK.out.nodes.below (hwq.trans (X.h.mono hwq.size))).more (Nat.le_trans hwq.size X.h.size)) h2
              rw[h2] at HEM;have HQW:=Lib.hid hbq;clear hcell' hbq hwq hMq hy;cases ho:endOk k y with
              | false=>
                rw[ho] at HEM;have HG':Hid (R3=(false && !(x.ends.drop (m+1)).any (fun y=> !endOk k y || (!x.live && (y.kind != 0))))):=by show _=_;rw[HQ.out,HDQ.out,ho];rfl
                clear ho;go_wp2;refine Azb (by kernel_rfl) (by kernel_rfl) ?_
                repeat (go_big_quiet_step ((rename_i X;exact Calls.calm (HEM.out X))))
                refine wpQuiet_nil ?_;rintro _ ⟨⟨w1,hb1⟩,rfl⟩;have hf:=HQW.out.trans (hb1.mono HQW.out.size);go_wp2;go_roundw
                case rel=>exact⟨false,m+1,by omega,rfl,by go_num,hf,HG'⟩
                case measure=>simp[intOf];omega
              | true=>
                rw[ho] at HEM;obtain⟨lv,hlv⟩:∃ b,b=x.live:=⟨_,rfl⟩;rw[←hlv] at d0;cases lv with
                | true=>
                  have HG':Hid (R3=(true && !(x.ends.drop (m+1)).any (fun y=> !endOk k y || (!x.live && (y.kind != 0))))):=by show _=_;rw[HQ.out,HDQ.out,ho, ←hlv];rfl
                  clear ho hlv;go_wp2;refine Azb (by kernel_rfl) (by kernel_rfl) ?_
                  repeat (go_big_quiet_step ((rename_i X;exact Calls.calm (HEM.out X))))
                  refine wpQuiet_nil ?_;rintro _ ⟨⟨w1,hb1⟩,rfl⟩;have hf:=HQW.out.trans (hb1.mono HQW.out.size);go_wp2;go_roundw
                  case rel=>exact⟨true,m+1,by omega,rfl,by go_num,hf,HG'⟩
                  case measure=>simp[intOf];omega
                | false=>
                  have HG':Hid (R3=((y.kind == 0) && !(x.ends.drop (m+1)).any (fun y=> !endOk k y || (!x.live && (y.kind != 0))))):=by
                   show _=_;rw[HQ.out,HDQ.out,ho, ←hlv];cases hk0':(y.kind == 0)<;>simp[bne,hk0']
                  clear ho hlv;go_wp2;refine Azb (by kernel_rfl) (by kernel_rfl) ?_
                  repeat (go_big_quiet_step ((rename_i X;exact Calls.calm (HEM.out X))))
                  refine wpQuiet_nil ?_;rintro _ ⟨⟨w1,hb1⟩,rfl⟩;have hf:=HQW.out.trans (hb1.mono HQW.out.size);go_wp2;go_roundw
                  case rel=>exact⟨(y.kind == 0),m+1,by omega,rfl,by go_num,hf,HG'⟩
                  case measure=>simp[intOf];omega
           ·have HG':Hid (R2=(v && !(k.procs.drop (n+1)).any (Azt k))):=by
             show _=_;rw[HG.out,HQ.out,List.drop_of_length_le (by omega)];simp
            clear hbq HQ;go_wp2;go_roundw
            case rel=>exact⟨v,n+1,by omega,rfl,by go_num,hwq,HG'⟩
            case measure=>simp[intOf];omega
        ·obtain rfl:n=4:=by omega
         have HV2:Hid (R2=v2):=by
          show _=_;rw[HE.out,List.drop_of_length_le (by omega)];simp
         obtain⟨R4,hR4⟩:∃ R,R=(v2 && !anyI (Azu k) k.pipes 0):=⟨_,rfl⟩;have HFIN:Hid (Azm k=if R4 then 0 else 9):=by
          show _=_;rw[HV.out,hR4, ←HV2.out,HR2.out, ←HV1.out,HR1.out];cases anyI (Azn k) k.nodes 0<;>cases k.procs.any (Azt k)<;>cases anyI (Azu k) k.pipes 0<;>rfl
         have HR4:=Lib.hid hR4;have HW:=Lib.hid hb;clear hR4 hb HE hlt hn HV2 HR2 HV1 HR1 HV;go_wp2;go_loopw [6,11] (fun q i wr=>Cnt2 6 q i fun v n=>Below W0.heap.size W0 wr∧Hid (R4=(v && !anyI (Azu k) (k.pipes.drop n) n))) (fun _ i _=>6 - (intOf i).toNat)
         case atStart=>exact⟨v2,0,by omega,rfl,rfl,HW.out,by show _=_;rw[HR4.out];simp⟩
         case round=>
          clear HW;obtain⟨v,n,hn,rfl,rfl,hb,HE⟩:=hrel;by_cases hlt:n<6
          ·cases v with
           | false=>
             have HG':Hid (R4=(false && !anyI (Azu k) (k.pipes.drop (n+1)) (n+1))):=by show _=_;rw[HE.out];rfl
             go_wp2;go_roundw
             case rel=>first|exact⟨false,n+1,by omega,rfl,by go_num,hb,HG'⟩|((repeat apply Exists.intro);exact⟨⟨false,n+1,by omega,rfl,by go_num,hb,HG'⟩,rfl⟩)
             case measure=>simp[intOf];omega
           | true=>
             have hlt':n<k.pipes.length:=by omega
             obtain⟨b,o,e1,hbB,hcell⟩:=(HK.out.pipes.below hb) (by omega);have z0:=hcell n hlt';obtain⟨x,hx⟩:∃ x,x=k.pipes[n]:=⟨_,rfl⟩;have HD:=Lib.hid (Ezc (p:=Azu k) hlt');have hsz:=hS.pipes _ (List.getElem_mem hlt');rw[←hx] at z0 HD hsz;have hbs:b<wr.heap.size:=Nat.lt_of_lt_of_le hbB hb.size;unfold maxLen at hsz;obtain⟨c0,c1,c2,c3,c4⟩:=(HX.out.below hb hlt0).c5;have hk0:=(HX.out.below hb hlt0).lt;have HH:=Lib.hid (Cz4 (.slice a.a0 k.mods.length a.c0) (.slice a.a1 1024 a.c1) (.slice a.a2 8 a.c2) (.slice a.a3 6 a.c3) a.a4 a.c4 k.procs 2 (n:Int) wr ((HK.out.procs.below hb).more hb.size) (by rw[h4];unfold maxLen;omega));rw[h4,e1] at HH;rw[e1] at c3;have HW:=Lib.hid hb;have HGo:∀ v',(v'= !Azu k n x)→Hid (R4=(v' && !anyI (Azu k) (k.pipes.drop (n+1)) (n+1))):=fun v' hv'=>by
              show _=_;rw[HE.out,HD.out,hv'];cases Azu k n x<;>rfl
             have hn6:(n:Int)<6:=by omega
             clear hcell hb hx e1 HE HD hlt';by_cases h20:20<x.size
             ·have HG':=HGo false (by unfold Azu;rw[decide_eq_true h20];rfl)
              have h20':(20:Int)<(x.size:Int):=by omega
              clear h20 HGo;go_wp2;go_roundw
              case rel=>first|exact⟨false,n+1,by omega,rfl,by go_num,HW.out,HG'⟩|((repeat apply Exists.intro);exact⟨⟨false,n+1,by omega,rfl,by go_num,HW.out,HG'⟩,rfl⟩)
              case measure=>simp[intOf];omega
             ·have h20':(x.size:Int)≤20:=by omega
              have hp:Azu k n x=(!empS x && !hasE k.procs 2 n):=by unfold Azu;rw[decide_eq_false h20];rfl
              clear h20;cases hem:empS x with
              | true=>
                have hl0:x.toList=[]:=by rw[Bz5] at hem;simpa using hem
                have HG':=HGo true (by rw[hp,hem];rfl);clear hem hp HGo;go_wp2;go_roundw
                case rel=>first|exact⟨true,n+1,by omega,rfl,by go_num,HW.out,HG'⟩|((repeat apply Exists.intro);exact⟨⟨true,n+1,by omega,rfl,by go_num,HW.out,HG'⟩,rfl⟩)
                case measure=>simp[intOf];omega
              | false=>
                have hl0:x.toList≠ []:=by rw[Bz5] at hem;simpa using hem
                have hl1:(!x.toList.isEmpty)=true:=by simpa using hl0
                have hl2:x.toList.isEmpty=false:=by simpa using hl0
                obtain⟨v',hv'⟩:∃ v',v'=hasE k.procs 2 (n:Int):=⟨_,rfl⟩;rw[←hv'] at HH hp;have HG':=HGo v' (by rw[hp,hem];simp);clear hem hp HGo hv';go_wp2_with fail;refine HH.out.mono ?_;rintro e w2 ⟨rfl,hb2⟩;have hf:=HW.out.trans (hb2.mono HW.out.size);go_wp2;go_roundw
                case rel=>first|exact⟨v',n+1,by omega,rfl,by go_num,hf,HG'⟩|((repeat apply Exists.intro);exact⟨⟨v',n+1,by omega,rfl,by go_num,hf,HG'⟩,rfl⟩)
                case measure=>simp[intOf];omega
          ·obtain rfl:n=6:=by omega
           have HV3:Hid (R4=v):=by
            show _=_;rw[HE.out,List.drop_of_length_le (by omega)];simp[anyI]
           have hf:=HB.out.trans (hb.mono (Nat.le_of_lt hlt0));clear hb HE hlt;cases v with
           | true=>
             have HG':Hid (Azm k=0):=by show _=_;rw[HFIN.out,HV3.out];rfl
             go_wp2;go_ret;exact⟨Az8 HG'.out.symm,hf⟩
           | false=>
             have HG':Hid (Azm k=9):=by show _=_;rw[HFIN.out,HV3.out];rfl
             go_wp2;go_ret;exact⟨Az8 HG'.out.symm,hf⟩
theorem Lzn (k:Krn) (a:KA) (w:World) (hK:KrnAt w w.heap.size a k) (hS:k.small):
  Calls Tryz.prog 20 #[.agg (a.cells k)] w fun e w'=>e= .returned (.int .i64 (Azm k))∧Below w.heap.size w w':=by
 by_cases h:8<k.mods.length∨k.mem.length≠1024∨k.nodes.length≠8∨k.pipes.length≠6∨k.procs.length≠4
 ·exact Lzo k a w h
 ·exact Lzp k a w hK hS (by omega) (by omega) (by omega) (by omega) (by omega)
end Go.Proofs.YtdjamdbamkhblacGreatDoor
