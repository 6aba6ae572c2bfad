/- The walks of the reference's endMay and nodeMay. -/
import Derived.Test.YtdjamdbamkhblacGreatDoorG08
set_option maxHeartbeats 8000000
namespace Go.Proofs.YtdjamdbamkhblacGreatDoor
open Go.RowKit
set_option linter.unusedVariables false
set_option linter.unusedSimpArgs false
theorem Lzu (V0 V1 V3 V4:Value) (A:Option Addr) (c:Nat) (k:Krn) (x:Opn) (w:World) (hr:RdD w w.heap.size A k.nodes) (hl:k.nodes.length=8):
  Calls Tryz.prog 60 #[.agg #[V0,V1, .slice A k.nodes.length c,V3,V4], .agg #[.int .i64 x.kind, .int .i64 x.node, .int .i64 x.pos]] w fun e w'=>e= .returned (.bool (endOk k x))∧Below w.heap.size w w':=by
 obtain⟨b,o,rfl,hbB,hcell⟩:=hr (by omega);obtain⟨kd,nd,ps⟩:=x;simp only;rw[hl];have hb1:=Az6 w (.cells #[V0,V1, .slice (some ⟨b,o,none⟩) 8 c,V3,V4] 30);have HB:=Lib.hid (fun o=>hb1.alloc hb1.size o);have HE:∀ B:Bool,endOk k ⟨kd,nd,ps⟩=B→Hid (endOk k ⟨kd,nd,ps⟩=B):=fun _ h=>h
 by_cases k0:kd=0
 ·have HV:=HE ((nd == 0) && (ps == 0)) (by unfold endOk;rw[if_pos k0])
  subst k0;clear hr hcell HE;go_enter Tryz.func60,Tryz.ntmps60;go_wp2
  all_goals go_ret
  all_goals refine⟨Az9 ?_,HB.out _⟩
  all_goals rw[HV.out]
  all_goals simp[*]
 by_cases k1:kd=1
 ·subst k1
  clear k0;by_cases hn:0≤nd∧nd≤7
  ·have i1:=Azl hn.1 hn.2
   obtain⟨j,rfl⟩:=Int.eq_ofNat_of_zero_le hn.1;have hj:j<k.nodes.length:=by omega
   obtain⟨q0,q1,q2,q3⟩:=hcell j hj;obtain⟨y,hy⟩:∃ y,y=k.nodes[j]:=⟨_,rfl⟩;rw[←hy] at q1;have hg:k.nodes[j]?.getD default=y:=by rw[hy];simp[hj]
   have hj8:(j:Int)<8:=by omega
   have C1:Hid (∀ W:World,Calls Tryz.prog 21 #[.int .i64 (j:Int), .int .i64 0, .int .i64 7] W fun e w'=>e= .returned (.bool true)∧W=w'):=fun W=>by rw[←i1];exact Azi _ _ _ W
   clear hr hcell q0 q2 q3 hy hn i1;by_cases hk:y.kind=0
   ·have HV:=HE false (by simp[endOk,hg,hk])
    have hk':(y.kind != 0)=false:=by rw[hk];rfl
    clear hk hg HE;go_enter Tryz.func60,Tryz.ntmps60;go_wp2_with (first|(go_at_call 21;(with_reducible refine(C1.out _).mono ?_);rintro e w' ⟨rfl,rfl⟩))
    all_goals go_ret
    all_goals exact⟨Az9 HV.out.symm,HB.out _⟩
   ·have hk':(y.kind != 0)=true:=by rw[bne_iff_ne];exact hk
    have HV:=HE (inB ps 0 100) (by simp[endOk,hg,hk,hj8,inB]);clear hk hg HE;go_enter Tryz.func60,Tryz.ntmps60;go_wp2_with (first|(go_at_call 21;(with_reducible refine(C1.out _).mono ?_);rintro e w' ⟨rfl,rfl⟩));refine(Azi _ _ _ _).mono ?_;rintro e w' ⟨rfl,rfl⟩;go_wp2
    all_goals go_ret
    all_goals refine⟨Az9 ?_,HB.out _⟩
    all_goals rw[HV.out]
  ·have HV:=HE false (by simp[endOk];omega)
   have i1:=Azp (n:=nd) (lo:=0) (hi:=7) (by omega);have C1:Hid (∀ W:World,Calls Tryz.prog 21 #[.int .i64 nd, .int .i64 0, .int .i64 7] W fun e w'=>e= .returned (.bool false)∧W=w'):=fun W=>by rw[←i1];exact Azi _ _ _ W
   clear hr hcell HE hn i1;go_enter Tryz.func60,Tryz.ntmps60;go_wp2_with (first|(go_at_call 21;(with_reducible refine(C1.out _).mono ?_);rintro e w' ⟨rfl,rfl⟩))
   all_goals go_ret
   all_goals exact⟨Az9 HV.out.symm,HB.out _⟩
 by_cases k2:kd=2∨kd=3
 ·have HV:=HE (inB nd 0 5 && (ps == 0)) (by
   unfold endOk;rw[if_neg k0,if_neg k1,if_pos k2]
   congr 1
   rw[Bool.eq_iff_iff];simp[inB];omega)
  clear hr hcell k0 k1 HE;cases hi:inB nd 0 5
  all_goals
   have C1:Hid (∀ W:World,Calls Tryz.prog 21 #[.int .i64 nd, .int .i64 0, .int .i64 5] W fun e w'=>e= .returned (.bool (inB nd 0 5))∧W=w'):=fun W=>Azi _ _ _ W
   rw[hi] at C1 HV;clear hi;rcases k2 with rfl|rfl
   all_goals
    go_enter Tryz.func60,Tryz.ntmps60;go_wp2_with (first|(go_at_call 21;(with_reducible refine(C1.out _).mono ?_);rintro e w' ⟨rfl,rfl⟩))
    all_goals go_ret
    all_goals refine⟨Az9 ?_,HB.out _⟩
    all_goals rw[HV.out]
    all_goals simp[*]
 ·have t0:(kd == 0)=false:=by rw[beq_eq_false_iff_ne];exact k0
  have t1:(kd == 1)=false:=by rw[beq_eq_false_iff_ne];exact k1
  have t2:(kd == 2)=false:=by rw[beq_eq_false_iff_ne];omega
  have t3:(kd == 3)=false:=by rw[beq_eq_false_iff_ne];omega
  have HV:=HE false (by unfold endOk;rw[if_neg k0,if_neg k1,if_neg k2]);clear hr hcell k0 k1 k2 HE;go_enter Tryz.func60,Tryz.ntmps60;go_wp2;go_ret;exact⟨Az9 HV.out.symm,HB.out _⟩
theorem Kz1 (V1 V3:Value) (k:Krn) (A0 A A4:Option Addr) (c0 c c4:Nat) (i:Nat) (w:World) (hr:RdD w w.heap.size A k.nodes) (hp:RdP w w.heap.size A4 k.procs) (hl:k.nodes.length=8) (hl4:k.procs.length=4) (hm8:k.mods.length≤8) (hi:i<k.nodes.length) (hs:k.nodes[i].data.size≤maxLen) (hs':k.nodes[i].name.size≤maxLen):
  Calls Tryz.prog 59 #[.agg #[.slice A0 k.mods.length c0,V1, .slice A k.nodes.length c,V3, .slice A4 k.procs.length c4], .int .i64 (i:Int)] w fun e w'=>e= .returned (.bool (!Azn k i k.nodes[i]))∧Below w.heap.size w w':=by
 obtain⟨b,o,e1,hbB,hcell⟩:=hr (by omega);obtain⟨x,hx⟩:∃ x,x=k.nodes[i]:=⟨_,rfl⟩;obtain⟨q0,q1,q2,q3⟩:=hcell i hi;rw[←hx] at q0 q1 q2 q3 hs hs' ⊢;rw[hl,hl4];have hb1:=Az6 w (.cells #[.slice A0 k.mods.length c0,V1, .slice A 8 c,V3, .slice A4 4 c4] 30);have HB:=Lib.hid (fun o=>hb1.alloc hb1.size o);have HR:=Lib.hid (fun o=>(hr.below (HB.out o)).more (HB.out o).size);have HP:=Lib.hid (fun o=>(hp.below (HB.out o)).more (HB.out o).size);have HX:=Lib.hid (fun o=>(Blk.new w 30 #[.slice A0 k.mods.length c0,V1, .slice A 8 c,V3, .slice A4 4 c4]).alloc o);have HY:Hid (∀ cs:Array Value,Blk ((w.alloc (.cells #[.slice A0 k.mods.length c0,V1, .slice A 8 c,V3, .slice A4 4 c4] 30)).alloc (.cells cs 49)) (w.heap.size+1) 49 cs):=fun cs=>Blk.new' (by simp)
 rw[e1];rw[e1] at HB HR HP HX HY;have HE1:=Lib.hid e1;have hi8:(i:Int)<8:=by omega
 have hi8n:i<8:=by omega
 clear hr hp hcell hb1 hx e1 hi;unfold maxLen at hs hs';by_cases k0:x.kind=0
 ·have HV:Hid ((!Azn k i x)=(empS x.name && empS x.data && (x.unit == 0))):=by
   show _=_;have e:Bz6 k.mods.length x=(empS x.name && empS x.data && (x.unit == 0)):=by unfold Bz6;rw[if_pos k0]
   cases ho:Bz6 k.mods.length x with
   | false=>rw[Ezk ho, ←e,ho];rfl
   | true=>
     rw[←e,ho];rw[ho] at e;have he:empS x.name=true:=by
      have e:=e.symm;rw[Bool.and_eq_true,Bool.and_eq_true] at e;exact e.1.1
     rw[Ez1 ho he,k0];rfl
  have t0:(x.kind == 0)=true:=by rw[k0];rfl
  have HZ:=Lib.hid k0;clear k0;go_enter Tryz.func59,Tryz.ntmps59;go_wp2
  all_goals go_ret
  all_goals refine⟨Az9 ?_,HB.out _⟩
  all_goals rw[HV.out]
  all_goals simp[Bz5, *]
 have t0:(x.kind == 0)=false:=by rw[beq_eq_false_iff_ne];exact k0
 by_cases k12:x.kind<1∨2<x.kind
 ·have HV:Hid ((!Azn k i x)=false):=by
   show _=_;rw[Ezk];rfl;unfold Bz6;rw[if_neg k0,if_neg (by omega),if_neg (by omega)]
  have i1:=Azp (n:=x.kind) (lo:=1) (hi:=2) k12;have C1:Hid (∀ W:World,Calls Tryz.prog 21 #[.int .i64 x.kind, .int .i64 1, .int .i64 2] W fun e w'=>e= .returned (.bool false)∧W=w'):=fun W=>by rw[←i1];exact Azi _ _ _ W
  clear k0 k12 i1;go_enter Tryz.func59,Tryz.ntmps59;go_wp2_with (first|(go_at_call 21;(with_reducible refine(C1.out _).mono ?_);rintro e w' ⟨rfl,rfl⟩))
  all_goals go_ret
  all_goals exact⟨Az9 HV.out.symm,HB.out _⟩
 have i1:=Azl (n:=x.kind) (lo:=1) (hi:=2) (by omega) (by omega);have C1:Hid (∀ W:World,Calls Tryz.prog 21 #[.int .i64 x.kind, .int .i64 1, .int .i64 2] W fun e w'=>e= .returned (.bool true)∧W=w'):=fun W=>by rw[←i1];exact Azi _ _ _ W
 have C2:Hid (∀ W:World,Calls Tryz.prog 21 #[.int .i64 x.unit, .int .i64 0, .int .i64 ((k.mods.length:Int) - 1)] W fun e w'=>e= .returned (.bool (inB x.unit 0 ((k.mods.length:Int) - 1)))∧W=w'):=fun W=>Azi _ _ _ W
 have hm8':(k.mods.length:Int)≤8:=by omega
 cases ho:Bz6 k.mods.length x with
 | false=>
   have HV:Hid ((!Azn k i x)=false):=by show _=_;rw[Ezk ho];rfl
   clear i1;by_cases k1:x.kind=1
   ·have t1:(x.kind == 1)=true:=by rw[k1];rfl
    have t2:(x.kind == 2)=false:=by rw[k1];rfl
    have hno:¬ (x.unit=0∧x.data.size≤100):=by
     intro h;have:Bz6 k.mods.length x=true:=by unfold Bz6;rw[if_neg k0,if_pos k1];simp[h.1,h.2]
     rw[ho] at this;cases this
    by_cases hu:x.unit=0
    ·have hu':(x.unit != 0)=false:=by rw[hu];rfl
     have hd':(100:Int)<(x.data.size:Int):=by
      have:¬ x.data.size≤100:=fun h=>hno ⟨hu,h⟩
      omega
     clear k0 k12 ho k1 hno hu;go_enter Tryz.func59,Tryz.ntmps59;go_wp2_with (first|(go_at_call 21;(with_reducible refine(C1.out _).mono ?_);rintro e w' ⟨rfl,rfl⟩))
     all_goals go_ret
     all_goals exact⟨Az9 HV.out.symm,HB.out _⟩
    ·have hu':(x.unit != 0)=true:=by rw[bne_iff_ne];exact hu
     clear k0 k12 ho k1 hno hu;go_enter Tryz.func59,Tryz.ntmps59;go_wp2_with (first|(go_at_call 21;(with_reducible refine(C1.out _).mono ?_);rintro e w' ⟨rfl,rfl⟩))
     all_goals go_ret
     all_goals exact⟨Az9 HV.out.symm,HB.out _⟩
   ·have k2:x.kind=2:=by omega
    have t1:(x.kind == 1)=false:=by rw[k2];rfl
    have t2:(x.kind == 2)=true:=by rw[k2];rfl
    have hno:¬ (empS x.data=true∧inB x.unit 0 ((k.mods.length:Int) - 1)=true):=by
     intro h;have:Bz6 k.mods.length x=true:=by
      unfold Bz6;rw[if_neg k0,if_neg k1,if_pos k2];have h2:=h.2;simp[inB] at h2;simp[h.1];omega
     rw[ho] at this;cases this
    by_cases hd:x.data.toList=[]
    ·have hi2:inB x.unit 0 ((k.mods.length:Int) - 1)=false:=by
      cases h:inB x.unit 0 ((k.mods.length:Int) - 1) with
      | false=>rfl
      | true=>exact absurd ⟨by rw[Bz5];simpa using hd,h⟩ hno
     rw[hi2] at C2;clear k0 k12 ho k1 hno k2 hi2;go_enter Tryz.func59,Tryz.ntmps59;go_wp2_with (first|(go_at_call 21;(with_reducible refine(C1.out _).mono ?_);rintro e w' ⟨rfl,rfl⟩)|(go_at_call 21;(with_reducible refine(C2.out _).mono ?_);rintro e w' ⟨rfl,rfl⟩))
     all_goals go_ret
     all_goals exact⟨Az9 HV.out.symm,HB.out _⟩
    ·have hd':(!x.data.toList.isEmpty)=true:=by simpa using hd
     clear k0 k12 ho k1 hno k2;go_enter Tryz.func59,Tryz.ntmps59;go_wp2_with (first|(go_at_call 21;(with_reducible refine(C1.out _).mono ?_);rintro e w' ⟨rfl,rfl⟩))
     all_goals go_ret
     all_goals exact⟨Az9 HV.out.symm,HB.out _⟩
 | true=>
   clear i1;obtain⟨W1,hW1⟩:∃ W,W=(w.alloc (.cells #[.slice A0 k.mods.length c0,V1, .slice (some ⟨b,o,none⟩) 8 c,V3, .slice A4 4 c4] 30)).alloc (.cells #[.string x.name, .int .i64 x.kind, .string x.data, .int .i64 x.unit] 49):=⟨_,rfl⟩;have HB1:=HB.out (.cells #[.string x.name, .int .i64 x.kind, .string x.data, .int .i64 x.unit] 49);have HR1:=HR.out (.cells #[.string x.name, .int .i64 x.kind, .string x.data, .int .i64 x.unit] 49);have HP1:=HP.out (.cells #[.string x.name, .int .i64 x.kind, .string x.data, .int .i64 x.unit] 49);have HX1:=HX.out (.cells #[.string x.name, .int .i64 x.kind, .string x.data, .int .i64 x.unit] 49);have HY1:=HY.out #[.string x.name, .int .i64 x.kind, .string x.data, .int .i64 x.unit];rw[←hW1] at HB1 HR1 HP1 HX1 HY1;have HB1:=Lib.hid HB1;have HR1:=Lib.hid HR1;have HP1:=Lib.hid HP1;have HX1:=Lib.hid HX1;have HY1:=Lib.hid HY1;have HW1:=Lib.hid hW1;clear HB HR HP HX HY hW1;have hk12:x.kind=1∨x.kind=2:=by omega
   have hcases:((x.kind == 1)=true∧(x.kind == 2)=false∧(x.unit != 0)=false∧(x.data.size:Int)≤100)∨((x.kind == 1)=false∧(x.kind == 2)=true∧x.data.toList=[]∧inB x.unit 0 ((k.mods.length:Int) - 1)=true):=by
    have ho':=ho;unfold Bz6 at ho';rw[if_neg k0] at ho';rcases hk12 with k1|k2
    ·rw[if_pos k1] at ho'
     simp at ho';exact .inl ⟨by rw[k1];rfl,by rw[k1];rfl,by rw[ho'.1];rfl,by omega⟩
    ·rw[if_neg (by omega),if_pos k2] at ho'
     simp[Bz5] at ho';exact .inr ⟨by rw[k2];rfl,by rw[k2];rfl,ho'.1.1,Azl (by omega) (by omega)⟩
   cases hem:empS x.name with
   | true=>
     have HV:Hid ((!Azn k i x)=hasE k.procs 1 i):=by show _=_;rw[Ez1 ho hem,show (x.kind != 0)=true by rw[bne_iff_ne];exact k0];simp
     have hl0:x.name.toList=[]:=by rw[Bz5] at hem;simpa using hem
     have HH:=Lib.hid (Cz4 (.slice A0 k.mods.length c0) V1 (.slice (some ⟨b,o,none⟩) 8 c) V3 A4 c4 k.procs 1 (i:Int) W1 HP1.out (by rw[hl4];unfold maxLen;omega));rw[hl4] at HH;clear k0 k12 ho hem hk12;rcases hcases with⟨t1,t2,t3,t4⟩|⟨t1,t2,t3,t4⟩
     ·go_enter Tryz.func59,Tryz.ntmps59
      go_wp2_with (first|(go_at_call 21;(with_reducible refine(C1.out _).mono ?_);rintro e w' ⟨rfl,rfl⟩));rw[←HW1.out];refine HH.out.mono ?_;rintro e w2 ⟨rfl,hb2⟩;have hf:=HB1.out.trans (hb2.mono HB1.out.size);go_wp2;go_ret;exact⟨Az9 HV.out.symm,hf⟩
     ·rw[t4] at C2
      clear t4;go_enter Tryz.func59,Tryz.ntmps59;go_wp2_with (first|(go_at_call 21;(with_reducible refine(C1.out _).mono ?_);rintro e w' ⟨rfl,rfl⟩)|(go_at_call 21;(with_reducible refine(C2.out _).mono ?_);rintro e w' ⟨rfl,rfl⟩));rw[←HW1.out];refine HH.out.mono ?_;rintro e w2 ⟨rfl,hb2⟩;have hf:=HB1.out.trans (hb2.mono HB1.out.size);go_wp2;go_ret;exact⟨Az9 HV.out.symm,hf⟩
   | false=>
     have HV:Hid ((!Azn k i x)=(Azs x.name && !dupN (k.nodes.take i) x.name)):=by
      show _=_;rw[Fzq ho hem,show (x.kind == 0)=false by rw[beq_eq_false_iff_ne];exact k0];cases Azs x.name<;>simp
     have hl0:x.name.toList≠ []:=by rw[Bz5] at hem;simpa using hem
     have hl1:(!x.name.toList.isEmpty)=true:=by simpa using hl0
     have hl2:x.name.toList.isEmpty=false:=by simpa using hl0
     have HN:=Lib.hid hs';clear k0 k12 ho hem hk12;rcases hcases with⟨t1,t2,t3,t4⟩|⟨t1,t2,t3,t4⟩
     ·go_enter Tryz.func59,Tryz.ntmps59
      go_wp2_with (first|(go_at_call 21;(with_reducible refine(C1.out _).mono ?_);rintro e w' ⟨rfl,rfl⟩));rw[←HW1.out];go_loopw [6] (fun q wr=>Cnt i q fun m=>Below W1.heap.size W1 wr∧Hid (dupN (k.nodes.take i) x.name=((k.nodes.take i).drop m).any fun y=>y.name == x.name)) (fun q _=>i - (intOf q).toNat)
      case atStart=>exact⟨0,Nat.zero_le _,rfl,Below.refl _ _,rfl⟩
      case round=>
       obtain⟨m,hm,rfl,hb,HE⟩:=hrel;by_cases hlt:m<i
       ·obtain⟨b',o',e2,hbB',hcell⟩:=(HR1.out.below hb) (by omega)
        have hml:m<k.nodes.length:=by omega
        have z0:=(hcell m hml).1;have c2:=(HX1.out.below hb HX1.out.lt).cell 2;have d0:=(HY1.out.below hb HY1.out.lt).cell 0;simp at c2 d0;obtain⟨rfl,rfl⟩:b=b'∧o=o':=by injection e2 with e2;injection e2 with e3 e4;exact⟨e3,e4⟩
        obtain⟨y,hy⟩:∃ y,y=k.nodes[m]:=⟨_,rfl⟩;have HD:Hid (((k.nodes.take i).drop m).any (fun y=>y.name == x.name)=((y.name == x.name) || ((k.nodes.take i).drop (m+1)).any fun y=>y.name == x.name)):=by
         show _=_;rw[Dz7 (by rw[List.length_take];omega),List.getElem_take,hy]
        rw[←hy] at z0;have hbs:b<wr.heap.size:=Nat.lt_of_lt_of_le hbB' hb.size;have hw0:w.heap.size<wr.heap.size:=Nat.lt_of_lt_of_le HX1.out.lt hb.size;have hw1:w.heap.size+1<wr.heap.size:=Nat.lt_of_lt_of_le HY1.out.lt hb.size;have hm8:(m:Int)<8:=by omega
        have HW:=Lib.hid hb;clear hcell hb hy hml e2;cases hk:(y.name == x.name) with
        | true=>
          have HF:Hid ((!Azn k i x)=false):=by
           show _=_;rw[HV.out,HE.out,HD.out,hk];simp
          have hk':(y.name.toList == x.name.toList)=true:=by rw[bs_l];exact hk
          clear hk;go_wp2;go_quiet (fail);have hf:=HB1.out.trans ((Below.drewN' HW.out nq).mono HB1.out.size);go_wp2;go_ret;exact⟨Az9 HF.out.symm,hf⟩
        | false=>
          have HG:Hid (dupN (k.nodes.take i) x.name=((k.nodes.take i).drop (m+1)).any fun y=>y.name == x.name):=by show _=_;rw[HE.out,HD.out,hk];rfl
          have hk':(y.name.toList == x.name.toList)=false:=by rw[bs_l];exact hk
          clear hk;go_wp2;go_quiet (fail);have hf:=Below.drewN' HW.out nq;go_wp2;go_roundw
          case rel=>exact⟨m+1,by omega,by go_num,hf,HG⟩
          case measure=>simp[intOf];omega
       ·have HG:Hid ((!Azn k i x)=Azs x.name):=by
         show _=_;rw[HV.out,HE.out,List.drop_of_length_le (by rw[List.length_take];omega)];simp
        have d0:=(HY1.out.below hb HY1.out.lt).cell 0;simp at d0;have hf:=HB1.out.trans (hb.mono HB1.out.size);have hw1:w.heap.size+1<wr.heap.size:=Nat.lt_of_lt_of_le HY1.out.lt hb.size;clear hb HE;go_wp2_with fail;refine(Bzz x.name _ HN.out).mono ?_;rintro e w2 ⟨rfl,rfl⟩;go_wp2;go_ret;exact⟨Az9 HG.out.symm,hf⟩
     ·rw[t4] at C2
      clear t4;go_enter Tryz.func59,Tryz.ntmps59;go_wp2_with (first|(go_at_call 21;(with_reducible refine(C1.out _).mono ?_);rintro e w' ⟨rfl,rfl⟩)|(go_at_call 21;(with_reducible refine(C2.out _).mono ?_);rintro e w' ⟨rfl,rfl⟩));rw[←HW1.out];go_loopw [6] (fun q wr=>Cnt i q fun m=>Below W1.heap.size W1 wr∧Hid (dupN (k.nodes.take i) x.name=((k.nodes.take i).drop m).any fun y=>y.name == x.name)) (fun q _=>i - (intOf q).toNat)
      case atStart=>exact⟨0,Nat.zero_le _,rfl,Below.refl _ _,rfl⟩
      case round=>
       obtain⟨m,hm,rfl,hb,HE⟩:=hrel;by_cases hlt:m<i
       ·obtain⟨b',o',e2,hbB',hcell⟩:=(HR1.out.below hb) (by omega)
        have hml:m<k.nodes.length:=by omega
        have z0:=(hcell m hml).1;have c2:=(HX1.out.below hb HX1.out.lt).cell 2;have d0:=(HY1.out.below hb HY1.out.lt).cell 0;simp at c2 d0;obtain⟨rfl,rfl⟩:b=b'∧o=o':=by injection e2 with e2;injection e2 with e3 e4;exact⟨e3,e4⟩
        obtain⟨y,hy⟩:∃ y,y=k.nodes[m]:=⟨_,rfl⟩;have HD:Hid (((k.nodes.take i).drop m).any (fun y=>y.name == x.name)=((y.name == x.name) || ((k.nodes.take i).drop (m+1)).any fun y=>y.name == x.name)):=by
         show _=_;rw[Dz7 (by rw[List.length_take];omega),List.getElem_take,hy]
        rw[←hy] at z0;have hbs:b<wr.heap.size:=Nat.lt_of_lt_of_le hbB' hb.size;have hw0:w.heap.size<wr.heap.size:=Nat.lt_of_lt_of_le HX1.out.lt hb.size;have hw1:w.heap.size+1<wr.heap.size:=Nat.lt_of_lt_of_le HY1.out.lt hb.size;have hm8:(m:Int)<8:=by omega
        have HW:=Lib.hid hb;clear hcell hb hy hml e2;cases hk:(y.name == x.name) with
        | true=>
          have HF:Hid ((!Azn k i x)=false):=by
           show _=_;rw[HV.out,HE.out,HD.out,hk];simp
          have hk':(y.name.toList == x.name.toList)=true:=by rw[bs_l];exact hk
          clear hk;go_wp2;go_quiet (fail);have hf:=HB1.out.trans ((Below.drewN' HW.out nq).mono HB1.out.size);go_wp2;go_ret;exact⟨Az9 HF.out.symm,hf⟩
        | false=>
          have HG:Hid (dupN (k.nodes.take i) x.name=((k.nodes.take i).drop (m+1)).any fun y=>y.name == x.name):=by show _=_;rw[HE.out,HD.out,hk];rfl
          have hk':(y.name.toList == x.name.toList)=false:=by rw[bs_l];exact hk
          clear hk;go_wp2;go_quiet (fail);have hf:=Below.drewN' HW.out nq;go_wp2;go_roundw
          case rel=>exact⟨m+1,by omega,by go_num,hf,HG⟩
          case measure=>simp[intOf];omega
       ·have HG:Hid ((!Azn k i x)=Azs x.name):=by
         show _=_;rw[HV.out,HE.out,List.drop_of_length_le (by rw[List.length_take];omega)];simp
        have d0:=(HY1.out.below hb HY1.out.lt).cell 0;simp at d0;have hf:=HB1.out.trans (hb.mono HB1.out.size);have hw1:w.heap.size+1<wr.heap.size:=Nat.lt_of_lt_of_le HY1.out.lt hb.size;clear hb HE;go_wp2_with fail;refine(Bzz x.name _ HN.out).mono ?_;rintro e w2 ⟨rfl,rfl⟩;go_wp2;go_ret;exact⟨Az9 HG.out.symm,hf⟩
end Go.Proofs.YtdjamdbamkhblacGreatDoor
