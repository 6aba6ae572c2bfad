/- The walk of the reference's SafeFault: what it returns, for every code. The walk of the reference's allWords. The first place at which a predicate holds in a list: plain facts. The walks of slices.IndexFunc and slices.ContainsFunc at one element type: for every predicate whose calls leave old memory as it was. The walks of module.Name and of its reference. The walks of slices.IndexFunc and slices.ContainsFunc at one element type: for every predicate whose calls leave old memory as it was. The walks of module.Check and of its reference: what they return, for every module. The machine as plain mathematics: a step, and so many steps: no program in sight. -/
import Derived.Test.YtdjamdbamkhblabGreatDoorG04
import Derived.Deep.Light
import Derived.Test.YtdjamdbamkhblabGreatDoorG01
import Derived.Lib.ConvBytes
import Derived.Test.YtdjamdbamkhblabGreatDoorG02
namespace Go.Proofs.YtdjamdbamkhblabGreatDoor
open Go.RowKit
set_option maxHeartbeats 4000000 in
set_option maxRecDepth 100000 in
theorem SafeFault_any (A:Option Addr) (c:Nat) (l:List Ins) (w:World) (hr:RdI w w.heap.size A l) (hl:l.length≤maxLen):
  Calls Tryz.prog 81 #[.slice A l.length c] w fun e w'=>e= .returned (.int .i64 (verify l))∧Below w.heap.size w w':=by
 have HL:=Lib.hid hl;unfold maxLen at hl;by_cases hc0:check l=0
 ·have HC:=Lib.hid hc0
  clear hc0;by_cases hn0:l.length=0
  ·have hn1:((l.length:Int) == 0)=true:=by simp[hn0]
   have HN:=Lib.hid hn0;clear hn0;go_enter Tryz.func81,Tryz.ntmps81;go_wp2_with fail;refine(CodeFault_any A c l w hr HL.out).mono ?_;rw[HC.out];rintro e w1 ⟨rfl,hb1⟩;go_wp2;go_ret;exact⟨ret_int (by rw[verify,if_pos HC.out,List.eq_nil_of_length_eq_zero HN.out];rfl),hb1⟩
  ·have hn1:((l.length:Int) == 0)=false:=by rw[beq_eq_false_iff_ne];omega
   have hr0:=hr;obtain⟨b,o,rfl,hbB,hcell⟩:=hr (by omega);obtain⟨c0,c1,c2,c3⟩:=hcell (l.length - 1) (by omega);have hbs:b<w.heap.size:=hbB;go_enter Tryz.func81,Tryz.ntmps81;go_wp2_with fail;refine(CodeFault_any (some ⟨b,o,none⟩) c l w hr0 HL.out).mono ?_;rw[HC.out];rintro e w1 ⟨rfl,hb1⟩;rw[←hb1.cell (p:=⟨b,_,none⟩) hbB] at c0 c1 c2 c3;have hz1:b<w1.heap.size:=Nat.lt_of_lt_of_le hbB hb1.size;have HE:Hid (lastOk l=endB l[l.length - 1]):=by
    show lastOk l=_;unfold lastOk;rw[List.getLast?_eq_getElem?,List.getElem?_eq_getElem (by omega)]
   have HF:Hid (verify l=if endB l[l.length - 1] then vrf l.length (l.drop 0) else 10):=by
    show verify l=_;rw[verify,if_pos HC.out,HE.out,List.drop_zero]
   clear HE;by_cases hlast:endB l[l.length - 1]=true
   ·have hend:endB ⟨l[l.length - 1].op,l[l.length - 1].a,l[l.length - 1].b,l[l.length - 1].c⟩=true:=hlast
    have HV:Hid (verify l=vrf l.length (l.drop 0)):=by show _=_;rw[HF.out,if_pos hlast]
    have HL2:=Lib.hid hlast;have HK:Hid (chk l=0):=by show _=_;have:=HC.out;unfold check at this;split at this<;>simp_all
    clear hlast HF;go_wp2_with (go_at_call 94;refine(stops_any _ _ _ _ _).mono ?_;rintro e w2 ⟨rfl,rfl⟩);clear c0 c1 c2 c3 hend;go_loopw [4] (fun i wr=>Cnt l.length i fun k=>Below w.heap.size w wr∧Hid (verify l=vrf l.length (l.drop k))) (fun i _=>l.length - (intOf i).toNat)
    case atStart=>exact⟨0,Nat.zero_le _,rfl,hb1.alloc hb1.size _,HV⟩
    case round=>
     clear HV;obtain⟨k,hk,rfl,hb,HV⟩:=hrel;by_cases hlt:k<l.length
     ·obtain⟨c0,c1,c2,c3⟩:=hcell k hlt
      rw[←hb.cell (p:=⟨b,_,none⟩) hbB] at c0 c1 c2 c3;have HD:Hid (vrf l.length (l.drop k)=if badB l.length l[k] (l.getD (k+1) default) then 10 else vrf l.length (l.drop (k+1))):=vrf_drop hlt;have hbz:=hb.size;have hzr:b<wr.heap.size:=Nat.lt_of_lt_of_le hbB hbz;have hz1:b<wr.heap.size+1:=by omega
      have hz2:b<wr.heap.size+1+1:=by omega
      have hz3:b<wr.heap.size+1+1+1:=by omega
      have hz4:b<wr.heap.size+1+1+1+1:=by omega
      have hz5:b<wr.heap.size+1+1+1+1+1:=by omega
      obtain⟨o1,o2⟩:=chk_op HK.out k hlt;by_cases hk1:k+1<l.length
      ·obtain⟨d0,d1,d2,d3⟩:=hcell (k+1) hk1
       rw[←hb.cell (p:=⟨b,_,none⟩) hbB] at d0 d1 d2 d3;have HJ:Hid (l.getD (k+1) default=l[k+1]):=by show _=_;simp[List.getD,hk1]
       rw[HJ.out] at HD;clear hr hr0 hcell;generalize l[k]=i0 at*;generalize l[k+1]=j0 at*;obtain⟨io,ia,ib,ic⟩:=i0;obtain⟨jo,ja,jb,jc⟩:=j0
       dsimp only at c0 c1 c2 c3 d0 d1 d2 d3 o1 o2
       by_cases hW:io≤8
       ·have hW1:wrB ⟨io,ia,ib,ic⟩=true:=by simp[wrB];omega
        have hW2:inB io 1 8=true:=inB_true (by omega) (by omega);have hW3:jmpB ⟨io,ia,ib,ic⟩=false:=by simp[jmpB];omega
        go_wp2_with (first|(go_at_call 17;refine(In_any _ _ _ _).mono ?_;rintro e w2 ⟨rfl,rfl⟩)|(go_at_call 95;refine(orBase_any _ _ _ _ _).mono ?_;rintro e w2 ⟨rfl,rfl⟩)|(go_at_call 96;refine(jumps_any _ _ _ _ _).mono ?_;rintro e w2 ⟨rfl,rfl⟩))
        all_goals first
         | (go_ret
            refine⟨ret_int ?_,?_⟩
            ·rw[HV.out,HD.out,if_pos]
             go_light
             simp_all [badB,fstB]
            ·go_light
             repeat (first|exact hb|refine Below.alloc ?_ (by first|omega|(simp;omega)) _))
         | (refine⟨?_,?_⟩
            ·refine⟨k+1,by omega,by go_num,?_,?_⟩
             ·go_light
              repeat (first|exact hb|refine Below.alloc ?_ (by first|omega|(simp;omega)) _)
             ·show _=_
              rw[HV.out,HD.out,if_neg];go_light
              simp_all [badB,fstB]
            ·simp[intOf];omega)
         | (exfalso;go_light;simp_all;done)
       ·have hW1:wrB ⟨io,ia,ib,ic⟩=false:=by simp[wrB];omega
        have hW2:inB io 1 8=false:=inB_false (by omega);go_wp2_with (first|(go_at_call 17;refine(In_any _ _ _ _).mono ?_;rintro e w2 ⟨rfl,rfl⟩)|(go_at_call 95;refine(orBase_any _ _ _ _ _).mono ?_;rintro e w2 ⟨rfl,rfl⟩)|(go_at_call 96;refine(jumps_any _ _ _ _ _).mono ?_;rintro e w2 ⟨rfl,rfl⟩))
        all_goals first
         | (go_ret
            refine⟨ret_int ?_,?_⟩
            ·rw[HV.out,HD.out,if_pos]
             go_light
             simp_all [badB,fstB]
            ·go_light
             repeat (first|exact hb|refine Below.alloc ?_ (by first|omega|(simp;omega)) _))
         | (refine⟨?_,?_⟩
            ·refine⟨k+1,by omega,by go_num,?_,?_⟩
             ·go_light
              repeat (first|exact hb|refine Below.alloc ?_ (by first|omega|(simp;omega)) _)
             ·show _=_
              rw[HV.out,HD.out,if_neg];go_light
              simp_all [badB,fstB]
            ·simp[intOf];omega)
         | (exfalso;go_light;simp_all;done)
      ·have hO:l[k].op=10∨l[k].op=13∨l[k].op=15:=by
        have h:=HL2.out;have e:l.length - 1=k:=by omega
        simp only[e] at h
        simpa [endB] using h
       clear hr hr0 hcell;generalize l[k]=i0 at*;obtain⟨io,ia,ib,ic⟩:=i0
       dsimp only at c0 c1 c2 c3 o1 o2 hO
       have hW1:wrB ⟨io,ia,ib,ic⟩=false:=by simp[wrB];omega
       have hW2:inB io 1 8=false:=inB_false (by omega);have hO1:9<io:=by omega
       go_wp2_with (first|(go_at_call 17;refine(In_any _ _ _ _).mono ?_;rintro e w2 ⟨rfl,rfl⟩)|(go_at_call 95;refine(orBase_any _ _ _ _ _).mono ?_;rintro e w2 ⟨rfl,rfl⟩)|(go_at_call 96;refine(jumps_any _ _ _ _ _).mono ?_;rintro e w2 ⟨rfl,rfl⟩))
       all_goals first
        | (go_ret
           refine⟨ret_int ?_,?_⟩
           ·rw[HV.out,HD.out,if_pos]
            go_light
            simp_all [badB,fstB]
           ·go_light
            repeat (first|exact hb|refine Below.alloc ?_ (by first|omega|(simp;omega)) _))
        | (refine⟨?_,?_⟩
           ·refine⟨k+1,by omega,by go_num,?_,?_⟩
            ·go_light
             repeat (first|exact hb|refine Below.alloc ?_ (by first|omega|(simp;omega)) _)
            ·show _=_
             rw[HV.out,HD.out,if_neg];go_light
             simp_all [badB,fstB]
           ·simp[intOf];omega)
        | (exfalso;go_light;simp_all;done)
     ·go_wp2
      go_ret;exact⟨ret_int (by rw[HV.out,List.drop_of_length_le (by omega)];rfl),hb⟩
   ·have hend:endB ⟨l[l.length - 1].op,l[l.length - 1].a,l[l.length - 1].b,l[l.length - 1].c⟩=false:=by simpa using hlast
    have HV:Hid (verify l=10):=by show _=_;rw[HF.out,if_neg hlast]
    clear hlast HF;go_wp2_with (go_at_call 94;refine(stops_any _ _ _ _ _).mono ?_;rintro e w2 ⟨rfl,rfl⟩);go_ret;exact⟨ret_int HV.out.symm,hb1.alloc hb1.size _⟩
 ·have HC:=Lib.hid hc0
  have hc1:(check l == 0)=false:=by simp[hc0]
  have hc2:(check l != 0)=true:=by simp[hc0]
  clear hc0;go_enter Tryz.func81,Tryz.ntmps81;go_wp2_with fail;refine(CodeFault_any A c l w hr HL.out).mono ?_;rintro e w1 ⟨rfl,hb1⟩;go_wp2;go_ret;exact⟨ret_int (by rw[verify,if_neg HC.out]),hb1⟩
end Go.Proofs.YtdjamdbamkhblabGreatDoor
namespace Go.Proofs.YtdjamdbamkhblabGreatDoor
open Go.RowKit
def oddW (n:Int):Bool:=decide (n<0∨65535<n)
theorem inB_oddW (n:Int):inB n 0 65535= !oddW n:=by
 rw[Bool.eq_iff_iff];simp[inB,oddW]
set_option maxHeartbeats 1000000 in
theorem allWords_any (A:Option Addr) (c:Nat) (l:List Int) (w:World) (hr:RdN w w.heap.size A l) (hl:l.length≤maxLen):
  Calls Tryz.prog 54 #[.slice A l.length c] w fun e w'=>e= .returned (.bool (!(l.any oddW)))∧w=w':=by
 unfold maxLen at hl;have H0:Hid (l.any oddW=(l.drop 0).any oddW):=rfl;go_enter Tryz.func54,Tryz.ntmps54;go_wp2;go_loop [3] (fun i=>Cnt l.length i fun k=>Hid (l.any oddW=(l.drop k).any oddW)) (fun i=>l.length - (intOf i).toNat)
 case atStart=>exact⟨0,Nat.zero_le _,rfl,H0⟩
 case round=>
  obtain⟨k,hk,rfl,HV⟩:=hrel;by_cases hlt:k<l.length
  ·obtain⟨b,o,rfl,hbB,hcell⟩:=hr (by omega)
   have c0:=hcell k hlt;have HD:Hid ((l.drop k).any oddW=(oddW l[k] || (l.drop (k+1)).any oddW)):=by
    show _=_;rw[List.drop_eq_getElem_cons (by omega),List.any_cons]
   clear H0 hr hcell;cases hpk:oddW l[k] with
   | true=>
     have hin:inB l[k] 0 65535=false:=by rw[inB_oddW,hpk];rfl
     have HK:=Lib.hid hpk;clear hpk;go_wp2_with (go_at_call 82;refine(IsWord_any _ _).mono ?_;rintro e w' ⟨rfl,rfl⟩);go_ret;exact⟨ret_bool (by rw[HV.out,HD.out,HK.out];rfl),rfl⟩
   | false=>
     have hin:inB l[k] 0 65535=true:=by rw[inB_oddW,hpk];rfl
     have HK:=Lib.hid hpk;clear hpk;go_wp2_with (go_at_call 82;refine(IsWord_any _ _).mono ?_;rintro e w' ⟨rfl,rfl⟩);exact⟨⟨k+1,by omega,by go_num,by show _=_;rw[HV.out,HD.out,HK.out];rfl⟩,by simp[intOf];omega⟩
  ·go_wp2
   go_ret;exact⟨ret_bool (by rw[HV.out,List.drop_of_length_le (by omega)];rfl),rfl⟩
end Go.Proofs.YtdjamdbamkhblabGreatDoor
namespace Go.Proofs.YtdjamdbamkhblabGreatDoor
open Go.RowKit
def idxF {α:Type} (p:α→Bool):List α→Nat→Int
 | [],_=> -1
 | x::r,k=>if p x then (k:Int) else idxF p r (k+1)
theorem idxF_drop {α:Type} {p:α→Bool} {l:List α} {k:Nat} (h:k<l.length):idxF p (l.drop k) k=if p l[k] then (k:Int) else idxF p (l.drop (k+1)) (k+1):=by
 rw[List.drop_eq_getElem_cons h];rfl
theorem idxF_any {α:Type} (p:α→Bool):∀ (l:List α) (k:Nat),decide (0≤idxF p l k)=l.any p
 | [],k=>by simp[idxF]
 | x::r,k=>by
   rw[idxF,List.any_cons];cases hp:p x with
   | true=>simp
   | false=>simpa using idxF_any p r (k+1)
end Go.Proofs.YtdjamdbamkhblabGreatDoor
namespace Go.Proofs.YtdjamdbamkhblabGreatDoor
open Go.RowKit
def RdB (w:World) (B:Nat) (A:Option Addr) (l:List UInt8):Prop:=
 0<l.length→∃ b o,A=some ⟨b,o,none⟩∧b<B∧∀ k (h:k<l.length),w.cell? ⟨b,o+k,none⟩=some (.int .u8 l[k].toNat)
set_option maxHeartbeats 1000000 in
theorem IndexFunc_byte (F:FuncId) (cp:Array Value) (p:UInt8→Bool) (A:Option Addr) (c:Nat) (l:List UInt8) (w:World) (hr:RdB w w.heap.size A l) (hl:l.length≤maxLen)
  (eg:∀ args w,(callFunc F args).run Tryz.prog w= .ok (.enter F args) w)
  (hp:∀ x∈l,∀ (w1:World),Below w.heap.size w w1→Calls Tryz.prog F (#[.int .u8 x.toNat]++cp) w1 fun e w'=>e= .returned (.bool (p x))∧Below w1.heap.size w1 w'):
  Calls Tryz.prog 89 #[.slice A l.length c, .func (.func F) #[] cp] w fun e w'=>e= .returned (.int .i64 (idxF p l 0))∧Below w.heap.size w w':=by
 unfold maxLen at hl;have HP:=Lib.hid hp;clear hp;go_enter Tryz.func89,Tryz.ntmps89;go_wp2;go_loopw [8] (fun i wr=>Cnt l.length i fun k=>Below w.heap.size w wr∧Hid (idxF p l 0=idxF p (l.drop k) k)) (fun i _=>l.length - (intOf i).toNat)
 case atStart=>exact⟨0,Nat.zero_le _,rfl,Below.refl _ _,rfl⟩
 case round=>
  obtain⟨k,hk,rfl,hb,HV⟩:=hrel;by_cases hlt:k<l.length
  ·obtain⟨b,o,rfl,hbB,hcell⟩:=hr (by omega)
   have c0:=hcell k hlt;rw[←hb.cell (p:=⟨b,_,none⟩) hbB] at c0;have HD:=Lib.hid (idxF_drop (p:=p) hlt);have HM:=Lib.hid (List.getElem_mem hlt);clear hr hcell;cases hpk:p l[k] with
   | true=>
     have HK:=Lib.hid hpk;clear hpk;go_wp2_with fail;refine(HP.out _ HM.out _ hb).mono ?_;rw[HK.out];rintro e w1 ⟨rfl,hb1⟩;go_wp2;go_ret;exact⟨ret_int (by rw[HV.out,HD.out,if_pos HK.out]),hb.trans (hb1.mono hb.size)⟩
   | false=>
     have HK:=Lib.hid hpk;clear hpk;go_wp2_with fail;refine(HP.out _ HM.out _ hb).mono ?_;rw[HK.out];rintro e w1 ⟨rfl,hb1⟩;go_wp2;go_roundw
     case rel=>exact⟨k+1,by omega,by go_num,hb.trans (hb1.mono hb.size),by show _=_;rw[HV.out,HD.out,if_neg (by rw[HK.out];decide)]⟩
     case measure=>simp[intOf];omega
  ·go_wp2
   go_ret;exact⟨ret_int (by rw[HV.out,List.drop_of_length_le (by omega)];rfl),hb⟩
set_option maxHeartbeats 400000 in
theorem ContainsFunc_byte (F:FuncId) (cp:Array Value) (p:UInt8→Bool) (A:Option Addr) (c:Nat) (l:List UInt8) (w:World) (hr:RdB w w.heap.size A l) (hl:l.length≤maxLen)
  (eg:∀ args w,(callFunc F args).run Tryz.prog w= .ok (.enter F args) w)
  (hp:∀ x∈l,∀ (w1:World),Below w.heap.size w w1→Calls Tryz.prog F (#[.int .u8 x.toNat]++cp) w1 fun e w'=>e= .returned (.bool (p x))∧Below w1.heap.size w1 w'):
  Calls Tryz.prog 69 #[.slice A l.length c, .func (.func F) #[] cp] w fun e w'=>e= .returned (.bool (l.any p))∧Below w.heap.size w w':=by
 have HP:=Lib.hid hp;have HE:=Lib.hid eg;clear hp eg;go_enter Tryz.func69,Tryz.ntmps69;go_wp2_with fail;refine(IndexFunc_byte F cp p A c l w hr hl HE.out HP.out).mono ?_;rintro e w1 ⟨rfl,hb1⟩;go_wp2
 all_goals go_ret
 all_goals refine⟨ret_bool ?_,hb1⟩
 all_goals rw[←idxF_any p l 0]
end Go.Proofs.YtdjamdbamkhblabGreatDoor
namespace Go.Proofs.YtdjamdbamkhblabGreatDoor
open Go.RowKit
def oddBy (c:UInt8):Bool:=decide (c.toNat<97∨122<c.toNat)
set_option maxHeartbeats 400000 in
theorem Name1_any (c:UInt8) (w:World):
  Calls Tryz.prog 70 #[.int .u8 c.toNat] w fun e w'=>e= .returned (.bool (oddBy c))∧w=w':=by
 go_enter Tryz.func70,Tryz.ntmps70;go_wp2
 all_goals go_ret
 all_goals refine⟨ret_bool ?_,rfl⟩
 all_goals (rw[Bool.eq_iff_iff];simp[oddBy];omega)
theorem Name1_enter:∀ args w,(callFunc 70 args).run Tryz.prog w= .ok (.enter 70 args) w:=fun args w=>by
 simp only[callFunc,run_program,Sem.run_bind,Result.andThen_ok,Tryz.func70];rfl
def nameOk (s:ByteArray):Bool:=decide (1≤s.size∧s.size≤6) && !(s.data.toList.any oddBy)
theorem conv_bytes (w:World) (s:ByteArray):∃ (cap:Nat) (w1:World),(convert 9 107 (.string s)).run Tryz.prog w= .ok (.slice (some ⟨w.heap.size,0,none⟩) s.data.toList.length cap) w1∧
  Below w.heap.size w w1∧RdB w1 w1.heap.size (some ⟨w.heap.size,0,none⟩) s.data.toList:=by
 refine⟨grownCap w s.size 0 5,Lib.bytesWorld w 5 s,(Lib.run_convert_string_bytes w 9 107 5 s Tryz.underlying9 Tryz.underlying107 Tryz.underlying5).trans ?_,⟨rfl,rfl,rfl,by rw[Lib.bytesWorld_size];omega,fun k hk=>Lib.bytesWorld_at_old w _ s k hk⟩,fun _=>⟨w.heap.size,0,rfl,by rw[Lib.bytesWorld_size];omega,fun k hk=>?_⟩⟩
 ·rw[show s.size=s.data.toList.length by simp]
 ·rw[Nat.zero_add,Lib.bytesWorld_cell w _ s k (by simpa using hk)]
  simp[List.getD,List.getElem?_eq_getElem hk]
set_option maxHeartbeats 1000000 in
theorem Name_any (s:ByteArray) (w:World) (hs:s.size≤maxLen):
  Calls Tryz.prog 31 #[.string s] w fun e w'=>e= .returned (.bool (nameOk s))∧Below w.heap.size w w':=by
 have hl:s.data.toList.length≤maxLen:=by simpa using hs
 have HL:=Lib.hid hl;have hsz:s.data.toList.length=s.size:=by simp
 have hemp:s.toList=s.data.toList:=ByteArray.toList_eq s;unfold maxLen at hs;by_cases h0:s.size=0
 ·have hl0:s.toList=[]:=by rw[hemp];exact List.eq_nil_of_length_eq_zero (by omega)
  have hl1:(!s.toList.isEmpty)=false:=by rw[hl0];rfl
  have H0:=Lib.hid h0;clear h0 hemp hsz hl;go_enter Tryz.func31,Tryz.ntmps31;go_wp2;go_ret;exact⟨ret_bool (by simp[nameOk,H0.out]),Below.refl _ _⟩
 ·have hl0:¬ s.toList=[]:=fun e=>h0 (by rw[←hsz, ←hemp,e];rfl)
  have hl1:(!s.toList.isEmpty)=true:=by simp[hl0]
  by_cases h6:6<s.size
  ·have h6':(6:Int)<(s.size:Int):=by omega
   have H6:=Lib.hid h6;clear h0 hemp hsz hl h6;go_enter Tryz.func31,Tryz.ntmps31;go_wp2;go_ret;refine⟨ret_bool ?_,Below.refl _ _⟩;have:=H6.out;simp[nameOk];omega
  ·have h6':(s.size:Int)≤6:=by omega
   obtain⟨cap,w1,hcv,hb1,hr1⟩:=conv_bytes w s;have HS:=Lib.hid (show 1≤s.size∧s.size≤6 by omega);have HE:=Lib.hid hl0;clear h0 hemp hsz hl h6;go_enter Tryz.func31,Tryz.ntmps31;go_wp2_with fail;refine(ContainsFunc_byte 70 #[] oddBy _ cap s.data.toList w1 hr1 HL.out Name1_enter (fun x _ w2 _=>(Name1_any x w2).mono ?_)).mono ?_
   ·rintro e w3 ⟨rfl,rfl⟩
    exact⟨rfl,Below.refl _ _⟩
   rintro e w2 ⟨rfl,hb2⟩;go_wp2
   all_goals go_ret
   all_goals refine⟨ret_bool ?_,hb1.trans (hb2.mono hb1.size)⟩
   all_goals simp[nameOk,HS.out]
set_option maxHeartbeats 1000000 in
theorem NameMay_any (s:ByteArray) (w:World) (hs:s.size≤maxLen):
  Calls Tryz.prog 60 #[.string s] w fun e w'=>e= .returned (.bool (nameOk s))∧w=w':=by
 unfold maxLen at hs;have hsz:s.data.toList.length=s.size:=by simp
 have H0:Hid (s.data.toList.any oddBy=(s.data.toList.drop 0).any oddBy):=rfl;go_enter Tryz.func60,Tryz.ntmps60;go_wp2;go_loop [3] (fun i=>Cnt s.size i fun k=>Hid (s.data.toList.any oddBy=(s.data.toList.drop k).any oddBy)) (fun i=>s.size - (intOf i).toNat)
 case atStart=>exact⟨0,Nat.zero_le _,rfl,H0⟩
 case round=>
  obtain⟨k,hk,rfl,HV⟩:=hrel;by_cases hlt:k<s.size
  ·have HD:Hid ((s.data.toList.drop k).any oddBy=(oddBy s[k] || (s.data.toList.drop (k+1)).any oddBy)):=by
    show _=_;rw[List.drop_eq_getElem_cons (by omega),List.any_cons];rfl
   clear H0 hsz;have hx:(s[k].toNat:Int)≤255:=by have:=s[k].toNat_lt;omega
   cases hpk:oddBy s[k] with
   | true=>
     have hin:inB (s[k].toNat:Int) 97 122=false:=by
      have:s[k].toNat<97∨122<s[k].toNat:=by simpa [oddBy] using hpk
      exact inB_false (by omega)
     have HK:=Lib.hid hpk;clear hpk;go_wp2_with (go_at_call 17;refine(In_any _ _ _ _).mono ?_;rintro e w' ⟨rfl,rfl⟩);go_ret;exact⟨ret_bool (by simp[nameOk,HV.out,HD.out,HK.out]),rfl⟩
   | false=>
     have hin:inB (s[k].toNat:Int) 97 122=true:=by
      have:¬ (s[k].toNat<97∨122<s[k].toNat):=by simpa [oddBy] using hpk
      exact inB_true (by omega) (by omega)
     have HK:=Lib.hid hpk;clear hpk;go_wp2_with (go_at_call 17;refine(In_any _ _ _ _).mono ?_;rintro e w' ⟨rfl,rfl⟩);exact⟨⟨k+1,by omega,by go_num,by show _=_;rw[HV.out,HD.out,HK.out];rfl⟩,by simp[intOf];omega⟩
  ·have HF:Hid (s.data.toList.any oddBy=false):=by
    show _=_;rw[HV.out,List.drop_of_length_le (by omega)];rfl
   clear H0 hsz;go_wp2_with (go_at_call 17;refine(In_any _ _ _ _).mono ?_;rintro e w' ⟨rfl,rfl⟩);go_ret;refine⟨ret_bool ?_,rfl⟩;unfold nameOk inB;rw[HF.out,Bool.eq_iff_iff];simp;omega
end Go.Proofs.YtdjamdbamkhblabGreatDoor
namespace Go.Proofs.YtdjamdbamkhblabGreatDoor
open Go.RowKit
set_option maxHeartbeats 1000000 in
theorem IndexFunc_int (F:FuncId) (cp:Array Value) (p:Int→Bool) (A:Option Addr) (c:Nat) (l:List Int) (w:World) (hr:RdN w w.heap.size A l) (hl:l.length≤maxLen)
  (eg:∀ args w,(callFunc F args).run Tryz.prog w= .ok (.enter F args) w)
  (hp:∀ x∈l,∀ (w1:World),Below w.heap.size w w1→Calls Tryz.prog F (#[.int .i64 x]++cp) w1 fun e w'=>e= .returned (.bool (p x))∧Below w1.heap.size w1 w'):
  Calls Tryz.prog 68 #[.slice A l.length c, .func (.func F) #[] cp] w fun e w'=>e= .returned (.int .i64 (idxF p l 0))∧Below w.heap.size w w':=by
 unfold maxLen at hl;have HP:=Lib.hid hp;clear hp;go_enter Tryz.func68,Tryz.ntmps68;go_wp2;go_loopw [8] (fun i wr=>Cnt l.length i fun k=>Below w.heap.size w wr∧Hid (idxF p l 0=idxF p (l.drop k) k)) (fun i _=>l.length - (intOf i).toNat)
 case atStart=>exact⟨0,Nat.zero_le _,rfl,Below.refl _ _,rfl⟩
 case round=>
  obtain⟨k,hk,rfl,hb,HV⟩:=hrel;by_cases hlt:k<l.length
  ·obtain⟨b,o,rfl,hbB,hcell⟩:=hr (by omega)
   have c0:=hcell k hlt;rw[←hb.cell (p:=⟨b,_,none⟩) hbB] at c0;have HD:=Lib.hid (idxF_drop (p:=p) hlt);have HM:=Lib.hid (List.getElem_mem hlt);clear hr hcell;cases hpk:p l[k] with
   | true=>
     have HK:=Lib.hid hpk;clear hpk;go_wp2_with fail;refine(HP.out _ HM.out _ hb).mono ?_;rw[HK.out];rintro e w1 ⟨rfl,hb1⟩;go_wp2;go_ret;exact⟨ret_int (by rw[HV.out,HD.out,if_pos HK.out]),hb.trans (hb1.mono hb.size)⟩
   | false=>
     have HK:=Lib.hid hpk;clear hpk;go_wp2_with fail;refine(HP.out _ HM.out _ hb).mono ?_;rw[HK.out];rintro e w1 ⟨rfl,hb1⟩;go_wp2;go_roundw
     case rel=>exact⟨k+1,by omega,by go_num,hb.trans (hb1.mono hb.size),by show _=_;rw[HV.out,HD.out,if_neg (by rw[HK.out];decide)]⟩
     case measure=>simp[intOf];omega
  ·go_wp2
   go_ret;exact⟨ret_int (by rw[HV.out,List.drop_of_length_le (by omega)];rfl),hb⟩
set_option maxHeartbeats 400000 in
theorem ContainsFunc_int (F:FuncId) (cp:Array Value) (p:Int→Bool) (A:Option Addr) (c:Nat) (l:List Int) (w:World) (hr:RdN w w.heap.size A l) (hl:l.length≤maxLen)
  (eg:∀ args w,(callFunc F args).run Tryz.prog w= .ok (.enter F args) w)
  (hp:∀ x∈l,∀ (w1:World),Below w.heap.size w w1→Calls Tryz.prog F (#[.int .i64 x]++cp) w1 fun e w'=>e= .returned (.bool (p x))∧Below w1.heap.size w1 w'):
  Calls Tryz.prog 28 #[.slice A l.length c, .func (.func F) #[] cp] w fun e w'=>e= .returned (.bool (l.any p))∧Below w.heap.size w w':=by
 have HP:=Lib.hid hp;have HE:=Lib.hid eg;clear hp eg;go_enter Tryz.func28,Tryz.ntmps28;go_wp2_with fail;refine(IndexFunc_int F cp p A c l w hr hl HE.out HP.out).mono ?_;rintro e w1 ⟨rfl,hb1⟩;go_wp2
 all_goals go_ret
 all_goals refine⟨ret_bool ?_,hb1⟩
 all_goals rw[←idxF_any p l 0]
end Go.Proofs.YtdjamdbamkhblabGreatDoor
namespace Go.Proofs.YtdjamdbamkhblabGreatDoor
open Go.RowKit
def modCheck (m:Mod):Int:=if nameOk m.name then (if 64<m.data.length then 1 else if m.data.any oddW then 2 else verify m.code) else 4
set_option maxHeartbeats 400000 in
theorem Check1_any (n:Int) (w:World):
  Calls Tryz.prog 65 #[.int .i64 n] w fun e w'=>e= .returned (.bool (oddW n))∧w=w':=by
 go_enter Tryz.func65,Tryz.ntmps65;go_wp2
 all_goals go_ret
 all_goals refine⟨ret_bool ?_,rfl⟩
 all_goals (rw[Bool.eq_iff_iff];simp[oddW];try omega)
theorem Check1_enter:∀ args w,(callFunc 65 args).run Tryz.prog w= .ok (.enter 65 args) w:=fun args w=>by
 simp only[callFunc,run_program,Sem.run_bind,Result.andThen_ok,Tryz.func65];rfl
set_option maxHeartbeats 1000000 in
theorem ModCheck_any (m:Mod) (A A':Option Addr) (c c':Nat) (w:World) (hn:m.name.size≤maxLen) (hr:RdI w w.heap.size A m.code) (hr':RdN w w.heap.size A' m.data) (ht:Tab w) (hl:m.code.length≤maxLen) (hl':m.data.length≤maxLen):
  Calls Tryz.prog 25 #[.agg #[.string m.name, .slice A m.code.length c, .slice A' m.data.length c']] w fun e w'=>e= .returned (.int .i64 (modCheck m))∧Below w.heap.size w w':=by
 have HL:=Lib.hid hl;have HL':=Lib.hid hl';unfold maxLen at hl hl';have ha:∀ o,Below w.heap.size w (w.alloc o):=fun o=>(Below.refl _ _).alloc (Nat.le_refl _) o
 cases hnm:nameOk m.name with
 | false=>
   have HN:=Lib.hid hnm;clear hnm;go_enter Tryz.func25,Tryz.ntmps25;go_wp2_with fail;refine(Name_any m.name _ hn).mono ?_;rw[HN.out];rintro e w1 ⟨rfl,hb1⟩;go_wp2;go_ret;exact⟨ret_int (by rw[modCheck,HN.out];rfl),(ha _).trans (hb1.mono (by simp))⟩
 | true=>
   have HN:=Lib.hid hnm;clear hnm;by_cases h64:64<m.data.length
   ·have h65:(64:Int)<(m.data.length:Int):=by omega
    go_enter Tryz.func25,Tryz.ntmps25;go_wp2_with fail;refine(Name_any m.name _ hn).mono ?_;rw[HN.out];rintro e w1 ⟨rfl,hb1⟩;obtain⟨hc1,hf1⟩:=bcell hb1;go_wp2;go_ret;exact⟨ret_int (by rw[modCheck,HN.out,if_pos rfl,if_pos h64]),(ha _).trans (hb1.mono (by simp))⟩
   ·have h65:(m.data.length:Int)≤64:=by omega
    go_enter Tryz.func25,Tryz.ntmps25;go_wp2_with fail;refine(Name_any m.name _ hn).mono ?_;rw[HN.out];rintro e w1 ⟨rfl,hb1⟩;obtain⟨hc1,hf1⟩:=bcell hb1;have hbw1:=(ha _).trans (hb1.mono (Nat.le_of_lt (by simp)));go_wp2_with fail;refine(ContainsFunc_int 65 #[] oddW A' c' m.data w1 ((hr'.below hbw1).more hbw1.size) HL'.out Check1_enter (fun x _ w2 _=>(Check1_any x w2).mono ?_)).mono ?_
    ·rintro e w3 ⟨rfl,rfl⟩
     exact⟨rfl,Below.refl _ _⟩
    cases hod:m.data.any oddW with
    | true=>
      have HO:=Lib.hid hod;clear hod;rintro e w2 ⟨rfl,hb2⟩;go_wp2;go_ret;exact⟨ret_int (by rw[modCheck,HN.out,if_pos rfl,if_neg h64,HO.out];rfl),hbw1.trans (hb2.mono hbw1.size)⟩
    | false=>
      have HO:=Lib.hid hod;clear hod;rintro e w2 ⟨rfl,hb2⟩;obtain⟨hc2,hf2⟩:=bcell hb2;have hbw2:=hbw1.trans (hb2.mono hbw1.size);have hz:=hb1.size;simp at hz;have hz1:w.heap.size<w1.heap.size:=by omega
      go_wp2_with fail;refine(Verify_any A c m.code w2 ((hr.below hbw2).more hbw2.size) (ht.below hbw2) HL.out).mono ?_;rintro e w3 ⟨rfl,hb3⟩;go_wp2;go_ret;exact⟨ret_int (by rw[modCheck,HN.out,if_pos rfl,if_neg h64,HO.out];rfl),hbw2.trans (hb3.mono hbw2.size)⟩
set_option maxHeartbeats 1000000 in
theorem ModFault_any (m:Mod) (A A':Option Addr) (c c':Nat) (w:World) (hn:m.name.size≤maxLen) (hr:RdI w w.heap.size A m.code) (hr':RdN w w.heap.size A' m.data) (hl:m.code.length≤maxLen) (hl':m.data.length≤maxLen):
  Calls Tryz.prog 53 #[.agg #[.string m.name, .slice A m.code.length c, .slice A' m.data.length c']] w fun e w'=>e= .returned (.int .i64 (modCheck m))∧Below w.heap.size w w':=by
 have HL:=Lib.hid hl;have HL':=Lib.hid hl';unfold maxLen at hl hl';have ha:∀ o,Below w.heap.size w (w.alloc o):=fun o=>(Below.refl _ _).alloc (Nat.le_refl _) o
 cases hnm:nameOk m.name with
 | false=>
   have HN:=Lib.hid hnm;clear hnm;go_enter Tryz.func53,Tryz.ntmps53;go_wp2_with fail;refine(NameMay_any m.name _ hn).mono ?_;rw[HN.out];rintro e w1 ⟨rfl,rfl⟩;go_wp2;go_ret;exact⟨ret_int (by rw[modCheck,HN.out];rfl),ha _⟩
 | true=>
   have HN:=Lib.hid hnm;clear hnm;by_cases h64:64<m.data.length
   ·have h65:(64:Int)<(m.data.length:Int):=by omega
    go_enter Tryz.func53,Tryz.ntmps53;go_wp2_with fail;refine(NameMay_any m.name _ hn).mono ?_;rw[HN.out];rintro e w1 ⟨rfl,rfl⟩;go_wp2;go_ret;exact⟨ret_int (by rw[modCheck,HN.out,if_pos rfl,if_pos h64]),ha _⟩
   ·have h65:(m.data.length:Int)≤64:=by omega
    go_enter Tryz.func53,Tryz.ntmps53;go_wp2_with fail;refine(NameMay_any m.name _ hn).mono ?_;rw[HN.out];rintro e w1 ⟨rfl,rfl⟩;have hbw1:=ha (.cells #[.string m.name, .slice A m.code.length c, .slice A' m.data.length c'] 41);go_wp2_with fail;refine(allWords_any A' c' m.data _ ((hr'.below hbw1).more hbw1.size) HL'.out).mono ?_;cases hod:m.data.any oddW with
    | true=>
      have HO:=Lib.hid hod;clear hod;rintro e w2 ⟨rfl,rfl⟩;go_wp2;go_ret;exact⟨ret_int (by rw[modCheck,HN.out,if_pos rfl,if_neg h64,HO.out];rfl),hbw1⟩
    | false=>
      have HO:=Lib.hid hod;clear hod;rintro e w2 ⟨rfl,rfl⟩;go_wp2_with fail;refine(SafeFault_any A c m.code _ ((hr.below hbw1).more hbw1.size) HL.out).mono ?_;rintro e w3 ⟨rfl,hb3⟩;go_wp2;go_ret;exact⟨ret_int (by rw[modCheck,HN.out,if_pos rfl,if_neg h64,HO.out];rfl),hbw1.trans (hb3.mono hbw1.size)⟩
end Go.Proofs.YtdjamdbamkhblabGreatDoor
namespace Go.Proofs.YtdjamdbamkhblabGreatDoor
structure Mc where
 pos:Nat
 back:List Nat
 regs:List Nat
 told:List Nat
 mem:List Nat
def rg (s:Mc) (i:Int):Nat:=s.regs.getD i.toNat 0
def reck (x y op c:Nat):Nat:=
 if op=2 then (x+y) % 65536 else if op=3 then (x+65536 - y) % 65536 else if op=4 then x &&& y else if op=5 then x |||y else if op=6 then x ^^^ y
 else if op=7 then (if x<y then 1 else 0) else c
def step (l:List Ins) (s:Mc):Mc × Nat:=
 match l[s.pos]? with
 | none=>(s,3)
 | some i=>
   if i.op=8 then (if rg s i.b<s.mem.length then ({ s with pos:=s.pos+1,regs:=s.regs.set i.a.toNat (s.mem.getD (rg s i.b) 0) },0) else ({ s with pos:=s.pos+1 },3))
   else if i.op=9 then (if rg s i.b<s.mem.length then ({ s with pos:=s.pos+1,mem:=s.mem.set (rg s i.b) (rg s i.a) },0) else ({ s with pos:=s.pos+1 },3))
   else if i.op=10 then ({ s with pos:=i.c.toNat },0)
   else if i.op=11 then ({ s with pos:=if rg s i.a=0 then i.c.toNat else s.pos+1 },0)
   else if i.op=12 then (if s.back.length=16 then ({ s with pos:=s.pos+1 },4) else ({ s with pos:=i.c.toNat,back:=s.back++ [s.pos+1] },0))
   else if i.op=13 then (if s.back.length=0 then ({ s with pos:=s.pos+1 },1) else ({ s with pos:=s.back.getD (s.back.length - 1) 0,back:=s.back.take (s.back.length - 1) },0))
   else if i.op=14 then (if s.told.length=100 then ({ s with pos:=s.pos+1 },5) else ({ s with pos:=s.pos+1,told:=s.told++ [rg s i.a] },0))
   else if i.op=15 then ({ s with pos:=s.pos+1 },1)
   else ({ s with pos:=s.pos+1,regs:=s.regs.set i.a.toNat (reck (rg s i.b) (rg s (i.c % 8)) i.op.toNat i.c.toNat) },0)
def runs (l:List Ins):Nat→Mc→Mc × Nat
 | 0,s=>(s,2)
 | n+1,s=>if (step l s).2=0 then runs l n (step l s).1 else step l s
theorem runs_go {l:List Ins} {n:Nat} {s:Mc} (h:(step l s).2=0):runs l (n+1) s=runs l n (step l s).1:=by simp[runs,h]
theorem runs_stop {l:List Ins} {n:Nat} {s:Mc} (h:(step l s).2≠0):runs l (n+1) s=step l s:=by simp[runs,h]
structure InsOk (i:Ins):Prop where
 op1:1≤i.op
 op2:i.op≤15
 a0:0≤i.a
 a7:i.a≤7
 b0:0≤i.b
 b7:i.b≤7
 c0:0≤i.c
 cw:i.c≤65535
 c7:2≤i.op→i.op≤7→i.c≤7
def CodeOk (l:List Ins):Prop:=∀ i∈l,InsOk i
structure McOk (s:Mc):Prop where
 regs:s.regs.length=8
 rw:∀ x∈s.regs,x≤65535
 mw:∀ x∈s.mem,x≤65535
 back:s.back.length≤16
 told:s.told.length≤100
theorem getD_le {l:List Nat} {b:Nat} (h:∀ x∈l,x≤b) (k:Nat):l.getD k 0≤b:=by
 rw[List.getD_eq_getElem?_getD];cases hk:l[k]? with
 | none=>simp
 | some v=>exact h v (List.mem_of_getElem? hk)
theorem set_le {l:List Nat} {b:Nat} (h:∀ x∈l,x≤b) (k v:Nat) (hv:v≤b):∀ x∈l.set k v,x≤b:=fun x hx=>by
 rcases List.mem_or_eq_of_mem_set hx with h1|h1
 ·exact h x h1
 ·omega
theorem rg_le {s:Mc} (h:McOk s) (i:Int):rg s i≤65535:=getD_le h.rw _
theorem reck_le {x y op c:Nat} (hx:x≤65535) (hy:y≤65535) (hc:c≤65535):reck x y op c≤65535:=by
 unfold reck;have h1:x &&& y<2 ^ 16:=Nat.and_lt_two_pow x (by omega);have h2:x |||y<2 ^ 16:=Nat.or_lt_two_pow (by omega) (by omega);have h3:x ^^^ y<2 ^ 16:=Nat.xor_lt_two_pow (by omega) (by omega)
 repeat' split
 all_goals omega
theorem step_ok {l:List Ins} {s:Mc} (hl:CodeOk l) (h:McOk s):McOk (step l s).1:=by
 unfold step;cases hi:l[s.pos]? with
 | none=>exact h
 | some i=>
   have hk:=hl i (List.mem_of_getElem? hi);have hcc:i.c.toNat≤65535:=by have:=hk.cw;omega
   have hm:=getD_le h.mw (rg s i.b);have hra:=rg_le h i.a;have hrk:=reck_le (op:=i.op.toNat) (rg_le h i.b) (rg_le h (i.c % 8)) hcc;simp only
   repeat' split
   all_goals first
    | exact⟨h.regs,h.rw,h.mw,h.back,h.told⟩
    | exact⟨by simpa using h.regs,set_le h.rw _ _ hm,h.mw,h.back,h.told⟩
    | exact⟨h.regs,h.rw,set_le h.mw _ _ hra,h.back,h.told⟩
    | exact⟨by simpa using h.regs,set_le h.rw _ _ hrk,h.mw,h.back,h.told⟩
    | exact⟨h.regs,h.rw,h.mw,by have:=h.back;simp;omega,h.told⟩
    | exact⟨h.regs,h.rw,h.mw,h.back,by have:=h.told;simp;omega⟩
theorem step_mem {l:List Ins} {s:Mc}:(step l s).1.mem.length=s.mem.length:=by
 unfold step;cases l[s.pos]? with
 | none=>rfl
 | some i=>
   simp only
   repeat' split
   all_goals simp
theorem runs_mem {l:List Ins}:∀ (n:Nat) (s:Mc),(runs l n s).1.mem.length=s.mem.length
 | 0,s=>rfl
 | n+1,s=>by
   by_cases h:(step l s).2=0
   ·rw[runs_go h,runs_mem n,step_mem]
   ·rw[runs_stop h,step_mem]
theorem runs_ok {l:List Ins} (hl:CodeOk l):∀ (n:Nat) (s:Mc),McOk s→McOk (runs l n s).1
 | 0,s,h=>h
 | n+1,s,h=>by
   by_cases h0:(step l s).2=0
   ·rw[runs_go h0];exact runs_ok hl n _ (step_ok hl h)
   ·rw[runs_stop h0];exact step_ok hl h
end Go.Proofs.YtdjamdbamkhblabGreatDoor
