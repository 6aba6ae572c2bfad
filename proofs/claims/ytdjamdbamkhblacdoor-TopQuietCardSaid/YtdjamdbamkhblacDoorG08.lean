/- The walk of safe.Verify: what it returns, for every code. The walk of the reference's SafeFault: what it returns, for every code. The walks of slices.IndexFunc and slices.ContainsFunc at one element type: for every predicate whose calls leave old memory as it was. The walks of module.Name and of its reference. The walks of slices.IndexFunc and slices.ContainsFunc at one element type: for every predicate whose calls leave old memory as it was. A module, as plain data and as a value in memory. -/
import Derived.Deep.Light
import Derived.Test.YtdjamdbamkhblacDoorG06
import Derived.Lib.ConvBytes
set_option maxHeartbeats 4000000
namespace Go.Proofs.YtdjamdbamkhblacDoor
open Go.RowKit
set_option maxRecDepth 100000 in
theorem Kzr (A:Option Addr) (c:Nat) (l:List Ins) (w:World) (hr:RdI w w.heap.size A l) (ht:Tab w) (hl:l.length≤maxLen):
  Calls Tryd.prog 83 #[.slice A l.length c] w fun e w'=>e= .returned (.int .i64 (verify l))∧Below w.heap.size w w':=by
 have HL:=Lib.hid hl;unfold maxLen at hl;by_cases hc0:check l=0
 ·have HC:=Lib.hid hc0
  clear hc0;by_cases hn0:l.length=0
  ·have hn1:((l.length:Int) == 0)=true:=by simp[hn0]
   have HN:=Lib.hid hn0;clear hn0;go_enter Tryd.func83,Tryd.ntmps83;go_wp2_with fail;refine(Bzc A c l w hr ht HL.out).mono ?_;rw[HC.out];rintro e w1 ⟨rfl,hb1⟩;go_wp2;go_ret;exact⟨Azb (by rw[verify,if_pos HC.out,List.eq_nil_of_length_eq_zero HN.out];rfl),hb1⟩
  ·have hn1:((l.length:Int) == 0)=false:=by rw[beq_eq_false_iff_ne];omega
   have hr0:=hr;obtain⟨b,o,rfl,hbB,hcell⟩:=hr (by omega);obtain⟨c0,c1,c2,c3⟩:=hcell (l.length - 1) (by omega);have hbs:b<w.heap.size:=hbB;go_enter Tryd.func83,Tryd.ntmps83;go_wp2_with fail;refine(Bzc (some ⟨b,o,none⟩) c l w hr0 ht HL.out).mono ?_;rw[HC.out];rintro e w1 ⟨rfl,hb1⟩;rw[←hb1.cell (p:=⟨b,_,none⟩) hbB] at c0 c1 c2 c3;have hz1:b<w1.heap.size:=Nat.lt_of_lt_of_le hbB hb1.size;have HE:Hid (Dz3 l=endB l[l.length - 1]):=by
    show Dz3 l=_;unfold Dz3;rw[List.getLast?_eq_getElem?,List.getElem?_eq_getElem (by omega)]
   have HF:Hid (verify l=if endB l[l.length - 1] then vrf l.length (l.drop 0) else 10):=by
    show verify l=_;rw[verify,if_pos HC.out,HE.out,List.drop_zero]
   clear HE;by_cases hlast:endB l[l.length - 1]=true
   ·have hend:endB ⟨l[l.length - 1].op,l[l.length - 1].a,l[l.length - 1].b,l[l.length - 1].c⟩=true:=hlast
    have HV:Hid (verify l=vrf l.length (l.drop 0)):=by show _=_;rw[HF.out,if_pos hlast]
    have HL2:=Lib.hid hlast;have HK:Hid (chk l=0):=by show _=_;have:=HC.out;unfold check at this;split at this<;>simp_all
    clear hlast HF;go_wp2_with (go_at_call 123;refine(Fzo _ _ _ _ _).mono ?_;rintro e w2 ⟨rfl,rfl⟩);clear c0 c1 c2 c3 hend;go_loopw [26] (fun i wr=>Cnt l.length i fun k=>Below w.heap.size w wr∧Hid (verify l=vrf l.length (l.drop k))) (fun i _=>l.length - (intOf i).toNat)
    case atStart=>exact⟨0,Nat.zero_le _,rfl,hb1.alloc hb1.size _,HV⟩
    case round=>
     clear HV;obtain⟨k,hk,rfl,hb,HV⟩:=hrel;by_cases hlt:k<l.length
     ·obtain⟨c0,c1,c2,c3⟩:=hcell k hlt
      rw[←hb.cell (p:=⟨b,_,none⟩) hbB] at c0 c1 c2 c3;have HD:Hid (vrf l.length (l.drop k)=if badB l.length l[k] (l.getD (k+1) default) then 10 else vrf l.length (l.drop (k+1))):=Pzx hlt;have hbz:=hb.size;have hzr:b<wr.heap.size:=Nat.lt_of_lt_of_le hbB hbz;have hz1:b<wr.heap.size+1:=by omega
      have hz2:b<wr.heap.size+1+1:=by omega
      have hz3:b<wr.heap.size+1+1+1:=by omega
      have hz4:b<wr.heap.size+1+1+1+1:=by omega
      have hz5:b<wr.heap.size+1+1+1+1+1:=by omega
      obtain⟨o1,o2⟩:=Sz2 HK.out k hlt;by_cases hk1:k+1<l.length
      ·obtain⟨d0,d1,d2,d3⟩:=hcell (k+1) hk1
       rw[←hb.cell (p:=⟨b,_,none⟩) hbB] at d0 d1 d2 d3;have HJ:Hid (l.getD (k+1) default=l[k+1]):=by show _=_;simp[List.getD,hk1]
       rw[HJ.out] at HD;clear hr hr0 hcell;generalize l[k]=i0 at*;generalize l[k+1]=j0 at*;obtain⟨io,ia,ib,ic⟩:=i0;obtain⟨jo,ja,jb,jc⟩:=j0
       dsimp only at c0 c1 c2 c3 d0 d1 d2 d3 o1 o2
       by_cases hW:io≤8
       ·have hW1:wrB ⟨io,ia,ib,ic⟩=true:=by simp[wrB];omega
        go_wp2_with (first|(go_at_call 124;refine(Fz3 _ _ _ _ _).mono ?_;rintro e w2 ⟨rfl,rfl⟩)|(go_at_call 125;refine(Ezz _ _ _ _ _).mono ?_;rintro e w2 ⟨rfl,rfl⟩)|(go_at_call 126;refine(first_any _ _ _ _ _).mono ?_;rintro e w2 ⟨rfl,rfl⟩))
        all_goals first
         | (go_ret
            refine⟨Azb ?_,?_⟩
            ·rw[HV.out,HD.out,if_pos]
             go_light
             simp_all [badB,jmpB]
            ·go_light
             repeat (first|exact hb|refine Below.alloc ?_ (by first|omega|(simp;omega)) _))
         | (refine⟨?_,?_⟩
            ·refine⟨k+1,by omega,by go_num,?_,?_⟩
             ·go_light
              repeat (first|exact hb|refine Below.alloc ?_ (by first|omega|(simp;omega)) _)
             ·show _=_
              rw[HV.out,HD.out,if_neg];go_light
              simp_all [badB,jmpB]
            ·simp[intOf];omega)
         | (exfalso;go_light;simp_all;done)
       ·have hW1:wrB ⟨io,ia,ib,ic⟩=false:=by simp[wrB];omega
        go_wp2_with (first|(go_at_call 124;refine(Fz3 _ _ _ _ _).mono ?_;rintro e w2 ⟨rfl,rfl⟩)|(go_at_call 125;refine(Ezz _ _ _ _ _).mono ?_;rintro e w2 ⟨rfl,rfl⟩)|(go_at_call 126;refine(first_any _ _ _ _ _).mono ?_;rintro e w2 ⟨rfl,rfl⟩))
        all_goals first
         | (go_ret
            refine⟨Azb ?_,?_⟩
            ·rw[HV.out,HD.out,if_pos]
             go_light
             simp_all [badB,jmpB]
            ·go_light
             repeat (first|exact hb|refine Below.alloc ?_ (by first|omega|(simp;omega)) _))
         | (refine⟨?_,?_⟩
            ·refine⟨k+1,by omega,by go_num,?_,?_⟩
             ·go_light
              repeat (first|exact hb|refine Below.alloc ?_ (by first|omega|(simp;omega)) _)
             ·show _=_
              rw[HV.out,HD.out,if_neg];go_light
              simp_all [badB,jmpB]
            ·simp[intOf];omega)
         | (exfalso;go_light;simp_all;done)
      ·have hO:l[k].op=10∨l[k].op=13∨l[k].op=15:=by
        have h:=HL2.out;have e:l.length - 1=k:=by omega
        simp only[e] at h
        simpa [endB] using h
       clear hr hr0 hcell;generalize l[k]=i0 at*;obtain⟨io,ia,ib,ic⟩:=i0
       dsimp only at c0 c1 c2 c3 o1 o2 hO
       have hW1:wrB ⟨io,ia,ib,ic⟩=false:=by simp[wrB];omega
       have hO1:9<io:=by omega
       go_wp2_with (first|(go_at_call 124;refine(Fz3 _ _ _ _ _).mono ?_;rintro e w2 ⟨rfl,rfl⟩)|(go_at_call 125;refine(Ezz _ _ _ _ _).mono ?_;rintro e w2 ⟨rfl,rfl⟩)|(go_at_call 126;refine(first_any _ _ _ _ _).mono ?_;rintro e w2 ⟨rfl,rfl⟩))
       all_goals first
        | (go_ret
           refine⟨Azb ?_,?_⟩
           ·rw[HV.out,HD.out,if_pos]
            go_light
            simp_all [badB,jmpB]
           ·go_light
            repeat (first|exact hb|refine Below.alloc ?_ (by first|omega|(simp;omega)) _))
        | (refine⟨?_,?_⟩
           ·refine⟨k+1,by omega,by go_num,?_,?_⟩
            ·go_light
             repeat (first|exact hb|refine Below.alloc ?_ (by first|omega|(simp;omega)) _)
            ·show _=_
             rw[HV.out,HD.out,if_neg];go_light
             simp_all [badB,jmpB]
           ·simp[intOf];omega)
        | (exfalso;go_light;simp_all;done)
     ·go_wp2
      go_ret;exact⟨Azb (by rw[HV.out,List.drop_of_length_le (by omega)];rfl),hb⟩
   ·have hend:endB ⟨l[l.length - 1].op,l[l.length - 1].a,l[l.length - 1].b,l[l.length - 1].c⟩=false:=by simpa using hlast
    have HV:Hid (verify l=10):=by show _=_;rw[HF.out,if_neg hlast]
    clear hlast HF;go_wp2_with (go_at_call 123;refine(Fzo _ _ _ _ _).mono ?_;rintro e w2 ⟨rfl,rfl⟩);go_ret;exact⟨Azb HV.out.symm,hb1.alloc hb1.size _⟩
 ·have HC:=Lib.hid hc0
  have hc1:(check l == 0)=false:=by simp[hc0]
  have hc2:(check l != 0)=true:=by simp[hc0]
  clear hc0;go_enter Tryd.func83,Tryd.ntmps83;go_wp2_with fail;refine(Bzc A c l w hr ht HL.out).mono ?_;rintro e w1 ⟨rfl,hb1⟩;go_wp2;go_ret;exact⟨Azb (by rw[verify,if_neg HC.out]),hb1⟩
def RdB (w:World) (B:Nat) (A:Option Addr) (l:List UInt8):Prop:=
 0<l.length→∃ b o,A=some ⟨b,o,none⟩∧b<B∧∀ k (h:k<l.length),w.cell? ⟨b,o+k,none⟩=some (.int .u8 l[k].toNat)
theorem Gze (F:FuncId) (cp:Array Value) (p:UInt8→Bool) (A:Option Addr) (c:Nat) (l:List UInt8) (w:World) (hr:RdB w w.heap.size A l) (hl:l.length≤maxLen)
  (eg:∀ args w,(callFunc F args).run Tryd.prog w= .ok (.enter F args) w)
  (hp:∀ x∈l,∀ (w1:World),Below w.heap.size w w1→Calls Tryd.prog F (#[.int .u8 x.toNat]++cp) w1 fun e w'=>e= .returned (.bool (p x))∧Below w1.heap.size w1 w'):
  Calls Tryd.prog 127 #[.slice A l.length c, .func (.func F) #[] cp] w fun e w'=>e= .returned (.int .i64 (idxF p l 0))∧Below w.heap.size w w':=by
 unfold maxLen at hl;have HP:=Lib.hid hp;clear hp;go_enter Tryd.func127,Tryd.ntmps127;go_wp2;go_loopw [8] (fun i wr=>Cnt l.length i fun k=>Below w.heap.size w wr∧Hid (idxF p l 0=idxF p (l.drop k) k)) (fun i _=>l.length - (intOf i).toNat)
 case atStart=>exact⟨0,Nat.zero_le _,rfl,Below.refl _ _,rfl⟩
 case round=>
  obtain⟨k,hk,rfl,hb,HV⟩:=hrel;by_cases hlt:k<l.length
  ·obtain⟨b,o,rfl,hbB,hcell⟩:=hr (by omega)
   have c0:=hcell k hlt;rw[←hb.cell (p:=⟨b,_,none⟩) hbB] at c0;have HD:=Lib.hid (Cz8 (p:=p) hlt);have HM:=Lib.hid (List.getElem_mem hlt);clear hr hcell;cases hpk:p l[k] with
   | true=>
     have HK:=Lib.hid hpk;clear hpk;go_wp2_with fail;refine(HP.out _ HM.out _ hb).mono ?_;rw[HK.out];rintro e w1 ⟨rfl,hb1⟩;go_wp2;go_ret;exact⟨Azb (by rw[HV.out,HD.out,if_pos HK.out]),hb.trans (hb1.mono hb.size)⟩
   | false=>
     have HK:=Lib.hid hpk;clear hpk;go_wp2_with fail;refine(HP.out _ HM.out _ hb).mono ?_;rw[HK.out];rintro e w1 ⟨rfl,hb1⟩;go_wp2;go_roundw
     case rel=>exact⟨k+1,by omega,by go_num,hb.trans (hb1.mono hb.size),by show _=_;rw[HV.out,HD.out,if_neg (by rw[HK.out];decide)]⟩
     case measure=>simp[intOf];omega
  ·go_wp2
   go_ret;exact⟨Azb (by rw[HV.out,List.drop_of_length_le (by omega)];rfl),hb⟩
theorem Ezp (F:FuncId) (cp:Array Value) (p:UInt8→Bool) (A:Option Addr) (c:Nat) (l:List UInt8) (w:World) (hr:RdB w w.heap.size A l) (hl:l.length≤maxLen)
  (eg:∀ args w,(callFunc F args).run Tryd.prog w= .ok (.enter F args) w)
  (hp:∀ x∈l,∀ (w1:World),Below w.heap.size w w1→Calls Tryd.prog F (#[.int .u8 x.toNat]++cp) w1 fun e w'=>e= .returned (.bool (p x))∧Below w1.heap.size w1 w'):
  Calls Tryd.prog 86 #[.slice A l.length c, .func (.func F) #[] cp] w fun e w'=>e= .returned (.bool (l.any p))∧Below w.heap.size w w':=by
 have HP:=Lib.hid hp;have HE:=Lib.hid eg;clear hp eg;go_enter Tryd.func86,Tryd.ntmps86;go_wp2_with fail;refine(Gze F cp p A c l w hr hl HE.out HP.out).mono ?_;rintro e w1 ⟨rfl,hb1⟩;go_wp2
 all_goals go_ret
 all_goals refine⟨Aza ?_,hb1⟩
 all_goals rw[←Czg p l 0]
def Pzg (c:UInt8):Bool:=decide (c.toNat<97∨122<c.toNat)
theorem Mz9 (c:UInt8) (w:World):
  Calls Tryd.prog 87 #[.int .u8 c.toNat] w fun e w'=>e= .returned (.bool (Pzg c))∧w=w':=by
 go_enter Tryd.func87,Tryd.ntmps87;go_wp2
 all_goals go_ret
 all_goals refine⟨Aza ?_,rfl⟩
 all_goals (rw[Bool.eq_iff_iff];simp[Pzg];omega)
theorem Izz:∀ args w,(callFunc 87 args).run Tryd.prog w= .ok (.enter 87 args) w:=fun args w=>by
 simp only[callFunc,run_program,Sem.run_bind,Result.andThen_ok,Tryd.func87];rfl
def Azu (s:ByteArray):Bool:=decide (1≤s.size∧s.size≤6) && !(s.data.toList.any Pzg)
theorem Gzk (w:World) (s:ByteArray):∃ (cap:Nat) (w1:World),(convert 9 84 (.string s)).run Tryd.prog w= .ok (.slice (some ⟨w.heap.size,0,none⟩) s.data.toList.length cap) w1∧
  Below w.heap.size w w1∧RdB w1 w1.heap.size (some ⟨w.heap.size,0,none⟩) s.data.toList:=by
 refine⟨grownCap w s.size 0 5,Lib.bytesWorld w 5 s,(Lib.run_convert_string_bytes w 9 84 5 s Tryd.underlying9 Tryd.underlying84 Tryd.underlying5).trans ?_,⟨rfl,rfl,rfl,by rw[Lib.bytesWorld_size];omega,fun k hk=>Lib.bytesWorld_at_old w _ s k hk⟩,fun _=>⟨w.heap.size,0,rfl,by rw[Lib.bytesWorld_size];omega,fun k hk=>?_⟩⟩
 ·rw[show s.size=s.data.toList.length by simp]
 ·rw[Nat.zero_add,Lib.bytesWorld_cell w _ s k (by simpa using hk)]
  simp[List.getD,List.getElem?_eq_getElem hk]
theorem Dze (s:ByteArray) (w:World) (hs:s.size≤maxLen):
  Calls Tryd.prog 47 #[.string s] w fun e w'=>e= .returned (.bool (Azu s))∧Below w.heap.size w w':=by
 have hl:s.data.toList.length≤maxLen:=by simpa using hs
 have HL:=Lib.hid hl;have hsz:s.data.toList.length=s.size:=by simp
 have hemp:s.toList=s.data.toList:=ByteArray.toList_eq s;unfold maxLen at hs;by_cases h0:s.size=0
 ·have hl0:s.toList=[]:=by rw[hemp];exact List.eq_nil_of_length_eq_zero (by omega)
  have hl1:(!s.toList.isEmpty)=false:=by rw[hl0];rfl
  have H0:=Lib.hid h0;clear h0 hemp hsz hl;go_enter Tryd.func47,Tryd.ntmps47;go_wp2;go_ret;exact⟨Aza (by simp[Azu,H0.out]),Below.refl _ _⟩
 ·have hl0:¬ s.toList=[]:=fun e=>h0 (by rw[←hsz, ←hemp,e];rfl)
  have hl1:(!s.toList.isEmpty)=true:=by simp[hl0]
  by_cases h6:6<s.size
  ·have h6':(6:Int)<(s.size:Int):=by omega
   have H6:=Lib.hid h6;clear h0 hemp hsz hl h6;go_enter Tryd.func47,Tryd.ntmps47;go_wp2;go_ret;refine⟨Aza ?_,Below.refl _ _⟩;have:=H6.out;simp[Azu];omega
  ·have h6':(s.size:Int)≤6:=by omega
   obtain⟨cap,w1,hcv,hb1,hr1⟩:=Gzk w s;have HS:=Lib.hid (show 1≤s.size∧s.size≤6 by omega);have HE:=Lib.hid hl0;clear h0 hemp hsz hl h6;go_enter Tryd.func47,Tryd.ntmps47;go_wp2_with fail;refine(Ezp 87 #[] Pzg _ cap s.data.toList w1 hr1 HL.out Izz (fun x _ w2 _=>(Mz9 x w2).mono ?_)).mono ?_
   ·rintro e w3 ⟨rfl,rfl⟩
    exact⟨rfl,Below.refl _ _⟩
   rintro e w2 ⟨rfl,hb2⟩;go_wp2
   all_goals go_ret
   all_goals refine⟨Aza ?_,hb1.trans (hb2.mono hb1.size)⟩
   all_goals simp[Azu,HS.out]
theorem Gzt (F:FuncId) (cp:Array Value) (p:Int→Bool) (A:Option Addr) (c:Nat) (l:List Int) (w:World) (hr:RdN w w.heap.size A l) (hl:l.length≤maxLen)
  (eg:∀ args w,(callFunc F args).run Tryd.prog w= .ok (.enter F args) w)
  (hp:∀ x∈l,∀ (w1:World),Below w.heap.size w w1→Calls Tryd.prog F (#[.int .i64 x]++cp) w1 fun e w'=>e= .returned (.bool (p x))∧Below w1.heap.size w1 w'):
  Calls Tryd.prog 85 #[.slice A l.length c, .func (.func F) #[] cp] w fun e w'=>e= .returned (.int .i64 (idxF p l 0))∧Below w.heap.size w w':=by
 unfold maxLen at hl;have HP:=Lib.hid hp;clear hp;go_enter Tryd.func85,Tryd.ntmps85;go_wp2;go_loopw [8] (fun i wr=>Cnt l.length i fun k=>Below w.heap.size w wr∧Hid (idxF p l 0=idxF p (l.drop k) k)) (fun i _=>l.length - (intOf i).toNat)
 case atStart=>exact⟨0,Nat.zero_le _,rfl,Below.refl _ _,rfl⟩
 case round=>
  obtain⟨k,hk,rfl,hb,HV⟩:=hrel;by_cases hlt:k<l.length
  ·obtain⟨b,o,rfl,hbB,hcell⟩:=hr (by omega)
   have c0:=hcell k hlt;rw[←hb.cell (p:=⟨b,_,none⟩) hbB] at c0;have HD:=Lib.hid (Cz8 (p:=p) hlt);have HM:=Lib.hid (List.getElem_mem hlt);clear hr hcell;cases hpk:p l[k] with
   | true=>
     have HK:=Lib.hid hpk;clear hpk;go_wp2_with fail;refine(HP.out _ HM.out _ hb).mono ?_;rw[HK.out];rintro e w1 ⟨rfl,hb1⟩;go_wp2;go_ret;exact⟨Azb (by rw[HV.out,HD.out,if_pos HK.out]),hb.trans (hb1.mono hb.size)⟩
   | false=>
     have HK:=Lib.hid hpk;clear hpk;go_wp2_with fail;refine(HP.out _ HM.out _ hb).mono ?_;rw[HK.out];rintro e w1 ⟨rfl,hb1⟩;go_wp2;go_roundw
     case rel=>exact⟨k+1,by omega,by go_num,hb.trans (hb1.mono hb.size),by show _=_;rw[HV.out,HD.out,if_neg (by rw[HK.out];decide)]⟩
     case measure=>simp[intOf];omega
  ·go_wp2
   go_ret;exact⟨Azb (by rw[HV.out,List.drop_of_length_le (by omega)];rfl),hb⟩
theorem Bzl (F:FuncId) (cp:Array Value) (p:Int→Bool) (A:Option Addr) (c:Nat) (l:List Int) (w:World) (hr:RdN w w.heap.size A l) (hl:l.length≤maxLen)
  (eg:∀ args w,(callFunc F args).run Tryd.prog w= .ok (.enter F args) w)
  (hp:∀ x∈l,∀ (w1:World),Below w.heap.size w w1→Calls Tryd.prog F (#[.int .i64 x]++cp) w1 fun e w'=>e= .returned (.bool (p x))∧Below w1.heap.size w1 w'):
  Calls Tryd.prog 44 #[.slice A l.length c, .func (.func F) #[] cp] w fun e w'=>e= .returned (.bool (l.any p))∧Below w.heap.size w w':=by
 have HP:=Lib.hid hp;have HE:=Lib.hid eg;clear hp eg;go_enter Tryd.func44,Tryd.ntmps44;go_wp2_with fail;refine(Gzt F cp p A c l w hr hl HE.out HP.out).mono ?_;rintro e w1 ⟨rfl,hb1⟩;go_wp2
 all_goals go_ret
 all_goals refine⟨Aza ?_,hb1⟩
 all_goals rw[←Czg p l 0]
structure Mod where
 name:ByteArray
 code:List Ins
 data:List Int
end Go.Proofs.YtdjamdbamkhblacDoor
