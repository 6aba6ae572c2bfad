/- The walk of the reference's SafeFault: what it returns, for every code. The walk of the reference's allWords. The first place at which a predicate holds in a list: plain facts. The walks of slices.IndexFunc and slices.ContainsFunc at one element type: for every predicate whose calls leave old memory as it was. The walks of module.Name and of its reference. The walks of slices.IndexFunc and slices.ContainsFunc at one element type: for every predicate whose calls leave old memory as it was. The walks of module.Check and of its reference: what they return, for every module. The machine as plain mathematics: a step, and so many steps: no program in sight. -/
import Derived.Test.YtdjamdbamkhblacGreatDoorG03
import Derived.Deep.Light
import Derived.Lib.ConvBytes
set_option maxHeartbeats 4000000
namespace Go.Proofs.YtdjamdbamkhblacGreatDoor
open Go.RowKit
set_option maxRecDepth 100000 in
theorem Hzh (A:Option Addr) (c:Nat) (l:List Ins) (w:World) (hr:RdI w w.heap.size A l) (hl:l.length≤maxLen):
  Calls Tryz.prog 85 #[.slice A l.length c] w fun e w'=>e= .returned (.int .i64 (verify l))∧Below w.heap.size w w':=by
 have HL:=Lib.hid hl;unfold maxLen at hl;by_cases hc0:check l=0
 ·have HC:=Lib.hid hc0
  clear hc0;by_cases hn0:l.length=0
  ·have hn1:((l.length:Int) == 0)=true:=by simp[hn0]
   have HN:=Lib.hid hn0;clear hn0;go_enter Tryz.func85,Tryz.ntmps85;go_wp2_with fail;refine(Bz2 A c l w hr HL.out).mono ?_;rw[HC.out];rintro e w1 ⟨rfl,hb1⟩;go_wp2;go_ret;exact⟨Az8 (by rw[verify,if_pos HC.out,List.eq_nil_of_length_eq_zero HN.out];rfl),hb1⟩
  ·have hn1:((l.length:Int) == 0)=false:=by rw[beq_eq_false_iff_ne];omega
   have hr0:=hr;obtain⟨b,o,rfl,hbB,hcell⟩:=hr (by omega);obtain⟨c0,c1,c2,c3⟩:=hcell (l.length - 1) (by omega);have hbs:b<w.heap.size:=hbB;go_enter Tryz.func85,Tryz.ntmps85;go_wp2_with fail;refine(Bz2 (some ⟨b,o,none⟩) c l w hr0 HL.out).mono ?_;rw[HC.out];rintro e w1 ⟨rfl,hb1⟩;rw[←hb1.cell (p:=⟨b,_,none⟩) hbB] at c0 c1 c2 c3;have hz1:b<w1.heap.size:=Nat.lt_of_lt_of_le hbB hb1.size;have HE:Hid (Fzo l=endB l[l.length - 1]):=by
    show Fzo l=_;unfold Fzo;rw[List.getLast?_eq_getElem?,List.getElem?_eq_getElem (by omega)]
   have HF:Hid (verify l=if endB l[l.length - 1] then vrf l.length (l.drop 0) else 10):=by
    show verify l=_;rw[verify,if_pos HC.out,HE.out,List.drop_zero]
   clear HE;by_cases hlast:endB l[l.length - 1]=true
   ·have hend:endB ⟨l[l.length - 1].op,l[l.length - 1].a,l[l.length - 1].b,l[l.length - 1].c⟩=true:=hlast
    have HV:Hid (verify l=vrf l.length (l.drop 0)):=by show _=_;rw[HF.out,if_pos hlast]
    have HL2:=Lib.hid hlast;have HK:Hid (chk l=0):=by show _=_;have:=HC.out;unfold check at this;split at this<;>simp_all
    clear hlast HF;go_wp2_with (go_at_call 98;refine(Jz9 _ _ _ _ _).mono ?_;rintro e w2 ⟨rfl,rfl⟩);clear c0 c1 c2 c3 hend;go_loopw [4] (fun i wr=>Cnt l.length i fun k=>Below w.heap.size w wr∧Hid (verify l=vrf l.length (l.drop k))) (fun i _=>l.length - (intOf i).toNat)
    case atStart=>exact⟨0,Nat.zero_le _,rfl,hb1.alloc hb1.size _,HV⟩
    case round=>
     clear HV;obtain⟨k,hk,rfl,hb,HV⟩:=hrel;by_cases hlt:k<l.length
     ·obtain⟨c0,c1,c2,c3⟩:=hcell k hlt
      rw[←hb.cell (p:=⟨b,_,none⟩) hbB] at c0 c1 c2 c3;have HD:Hid (vrf l.length (l.drop k)=if badB l.length l[k] (l.getD (k+1) default) then 10 else vrf l.length (l.drop (k+1))):=Lzf hlt;have hbz:=hb.size;have hzr:b<wr.heap.size:=Nat.lt_of_lt_of_le hbB hbz;have hz1:b<wr.heap.size+1:=by omega
      have hz2:b<wr.heap.size+1+1:=by omega
      have hz3:b<wr.heap.size+1+1+1:=by omega
      have hz4:b<wr.heap.size+1+1+1+1:=by omega
      have hz5:b<wr.heap.size+1+1+1+1+1:=by omega
      obtain⟨o1,o2⟩:=Qz7 HK.out k hlt;by_cases hk1:k+1<l.length
      ·obtain⟨d0,d1,d2,d3⟩:=hcell (k+1) hk1
       rw[←hb.cell (p:=⟨b,_,none⟩) hbB] at d0 d1 d2 d3;have HJ:Hid (l.getD (k+1) default=l[k+1]):=by show _=_;simp[List.getD,hk1]
       rw[HJ.out] at HD;clear hr hr0 hcell;generalize l[k]=i0 at*;generalize l[k+1]=j0 at*;obtain⟨io,ia,ib,ic⟩:=i0;obtain⟨jo,ja,jb,jc⟩:=j0
       dsimp only at c0 c1 c2 c3 d0 d1 d2 d3 o1 o2
       by_cases hW:io≤8
       ·have hW1:wrB ⟨io,ia,ib,ic⟩=true:=by simp[wrB];omega
        have hW2:inB io 1 8=true:=Azl (by omega) (by omega);have hW3:jmpB ⟨io,ia,ib,ic⟩=false:=by simp[jmpB];omega
        go_wp2_with (first|(go_at_call 21;refine(Azi _ _ _ _).mono ?_;rintro e w2 ⟨rfl,rfl⟩)|(go_at_call 99;refine(Fz7 _ _ _ _ _).mono ?_;rintro e w2 ⟨rfl,rfl⟩)|(go_at_call 100;refine(Gzg _ _ _ _ _).mono ?_;rintro e w2 ⟨rfl,rfl⟩))
        all_goals first
         | (go_ret
            refine⟨Az8 ?_,?_⟩
            ·rw[HV.out,HD.out,if_pos]
             go_light
             simp_all [badB,fstB]
            ·go_light
             repeat (first|exact hb|refine Below.alloc ?_ (by first|omega|(simp;omega)) _))
         | (refine⟨?_,?_⟩
            ·refine⟨k+1,by omega,by go_num,?_,?_⟩
             ·go_light
              repeat (first|exact hb|refine Below.alloc ?_ (by first|omega|(simp;omega)) _)
             ·show _=_
              rw[HV.out,HD.out,if_neg];go_light
              simp_all [badB,fstB]
            ·simp[intOf];omega)
         | (exfalso;go_light;simp_all;done)
       ·have hW1:wrB ⟨io,ia,ib,ic⟩=false:=by simp[wrB];omega
        have hW2:inB io 1 8=false:=Azp (by omega);go_wp2_with (first|(go_at_call 21;refine(Azi _ _ _ _).mono ?_;rintro e w2 ⟨rfl,rfl⟩)|(go_at_call 99;refine(Fz7 _ _ _ _ _).mono ?_;rintro e w2 ⟨rfl,rfl⟩)|(go_at_call 100;refine(Gzg _ _ _ _ _).mono ?_;rintro e w2 ⟨rfl,rfl⟩))
        all_goals first
         | (go_ret
            refine⟨Az8 ?_,?_⟩
            ·rw[HV.out,HD.out,if_pos]
             go_light
             simp_all [badB,fstB]
            ·go_light
             repeat (first|exact hb|refine Below.alloc ?_ (by first|omega|(simp;omega)) _))
         | (refine⟨?_,?_⟩
            ·refine⟨k+1,by omega,by go_num,?_,?_⟩
             ·go_light
              repeat (first|exact hb|refine Below.alloc ?_ (by first|omega|(simp;omega)) _)
             ·show _=_
              rw[HV.out,HD.out,if_neg];go_light
              simp_all [badB,fstB]
            ·simp[intOf];omega)
         | (exfalso;go_light;simp_all;done)
      ·have hO:l[k].op=10∨l[k].op=13∨l[k].op=15:=by
        have h:=HL2.out;have e:l.length - 1=k:=by omega
        simp only[e] at h
        simpa [endB] using h
       clear hr hr0 hcell;generalize l[k]=i0 at*;obtain⟨io,ia,ib,ic⟩:=i0
       dsimp only at c0 c1 c2 c3 o1 o2 hO
       have hW1:wrB ⟨io,ia,ib,ic⟩=false:=by simp[wrB];omega
       have hW2:inB io 1 8=false:=Azp (by omega);have hO1:9<io:=by omega
       go_wp2_with (first|(go_at_call 21;refine(Azi _ _ _ _).mono ?_;rintro e w2 ⟨rfl,rfl⟩)|(go_at_call 99;refine(Fz7 _ _ _ _ _).mono ?_;rintro e w2 ⟨rfl,rfl⟩)|(go_at_call 100;refine(Gzg _ _ _ _ _).mono ?_;rintro e w2 ⟨rfl,rfl⟩))
       all_goals first
        | (go_ret
           refine⟨Az8 ?_,?_⟩
           ·rw[HV.out,HD.out,if_pos]
            go_light
            simp_all [badB,fstB]
           ·go_light
            repeat (first|exact hb|refine Below.alloc ?_ (by first|omega|(simp;omega)) _))
        | (refine⟨?_,?_⟩
           ·refine⟨k+1,by omega,by go_num,?_,?_⟩
            ·go_light
             repeat (first|exact hb|refine Below.alloc ?_ (by first|omega|(simp;omega)) _)
            ·show _=_
             rw[HV.out,HD.out,if_neg];go_light
             simp_all [badB,fstB]
           ·simp[intOf];omega)
        | (exfalso;go_light;simp_all;done)
     ·go_wp2
      go_ret;exact⟨Az8 (by rw[HV.out,List.drop_of_length_le (by omega)];rfl),hb⟩
   ·have hend:endB ⟨l[l.length - 1].op,l[l.length - 1].a,l[l.length - 1].b,l[l.length - 1].c⟩=false:=by simpa using hlast
    have HV:Hid (verify l=10):=by show _=_;rw[HF.out,if_neg hlast]
    clear hlast HF;go_wp2_with (go_at_call 98;refine(Jz9 _ _ _ _ _).mono ?_;rintro e w2 ⟨rfl,rfl⟩);go_ret;exact⟨Az8 HV.out.symm,hb1.alloc hb1.size _⟩
 ·have HC:=Lib.hid hc0
  have hc1:(check l == 0)=false:=by simp[hc0]
  have hc2:(check l != 0)=true:=by simp[hc0]
  clear hc0;go_enter Tryz.func85,Tryz.ntmps85;go_wp2_with fail;refine(Bz2 A c l w hr HL.out).mono ?_;rintro e w1 ⟨rfl,hb1⟩;go_wp2;go_ret;exact⟨Az8 (by rw[verify,if_neg HC.out]),hb1⟩
def oddW (n:Int):Bool:=decide (n<0∨65535<n)
theorem Kzy (n:Int):inB n 0 65535= !oddW n:=by
 rw[Bool.eq_iff_iff];simp[inB,oddW]
theorem Bzr (A:Option Addr) (c:Nat) (l:List Int) (w:World) (hr:RdN w w.heap.size A l) (hl:l.length≤maxLen):
  Calls Tryz.prog 58 #[.slice A l.length c] w fun e w'=>e= .returned (.bool (!(l.any oddW)))∧w=w':=by
 unfold maxLen at hl;have H0:Hid (l.any oddW=(l.drop 0).any oddW):=rfl;go_enter Tryz.func58,Tryz.ntmps58;go_wp2;go_loop [3] (fun i=>Cnt l.length i fun k=>Hid (l.any oddW=(l.drop k).any oddW)) (fun i=>l.length - (intOf i).toNat)
 case atStart=>exact⟨0,Nat.zero_le _,rfl,H0⟩
 case round=>
  obtain⟨k,hk,rfl,HV⟩:=hrel;by_cases hlt:k<l.length
  ·obtain⟨b,o,rfl,hbB,hcell⟩:=hr (by omega)
   have c0:=hcell k hlt;have HD:Hid ((l.drop k).any oddW=(oddW l[k] || (l.drop (k+1)).any oddW)):=by
    show _=_;rw[List.drop_eq_getElem_cons (by omega),List.any_cons]
   clear H0 hr hcell;cases hpk:oddW l[k] with
   | true=>
     have hin:inB l[k] 0 65535=false:=by rw[Kzy,hpk];rfl
     have HK:=Lib.hid hpk;clear hpk;go_wp2_with (go_at_call 86;refine(Cz5 _ _).mono ?_;rintro e w' ⟨rfl,rfl⟩);go_ret;exact⟨Az9 (by rw[HV.out,HD.out,HK.out];rfl),rfl⟩
   | false=>
     have hin:inB l[k] 0 65535=true:=by rw[Kzy,hpk];rfl
     have HK:=Lib.hid hpk;clear hpk;go_wp2_with (go_at_call 86;refine(Cz5 _ _).mono ?_;rintro e w' ⟨rfl,rfl⟩);exact⟨⟨k+1,by omega,by go_num,by show _=_;rw[HV.out,HD.out,HK.out];rfl⟩,by simp[intOf];omega⟩
  ·go_wp2
   go_ret;exact⟨Az9 (by rw[HV.out,List.drop_of_length_le (by omega)];rfl),rfl⟩
def idxF {α:Type} (p:α→Bool):List α→Nat→Int
 | [],_=> -1
 | x::r,k=>if p x then (k:Int) else idxF p r (k+1)
theorem Bzs {α:Type} {p:α→Bool} {l:List α} {k:Nat} (h:k<l.length):idxF p (l.drop k) k=if p l[k] then (k:Int) else idxF p (l.drop (k+1)) (k+1):=by
 rw[List.drop_eq_getElem_cons h];rfl
theorem Dzb {α:Type} (p:α→Bool):∀ (l:List α) (k:Nat),decide (0≤idxF p l k)=l.any p
 | [],k=>by simp[idxF]
 | x::r,k=>by
   rw[idxF,List.any_cons];cases hp:p x with
   | true=>simp
   | false=>simpa using Dzb p r (k+1)
def RdB (w:World) (B:Nat) (A:Option Addr) (l:List UInt8):Prop:=
 0<l.length→∃ b o,A=some ⟨b,o,none⟩∧b<B∧∀ k (h:k<l.length),w.cell? ⟨b,o+k,none⟩=some (.int .u8 l[k].toNat)
theorem Gzo (F:FuncId) (cp:Array Value) (p:UInt8→Bool) (A:Option Addr) (c:Nat) (l:List UInt8) (w:World) (hr:RdB w w.heap.size A l) (hl:l.length≤maxLen)
  (eg:∀ args w,(callFunc F args).run Tryz.prog w= .ok (.enter F args) w)
  (hp:∀ x∈l,∀ (w1:World),Below w.heap.size w w1→Calls Tryz.prog F (#[.int .u8 x.toNat]++cp) w1 fun e w'=>e= .returned (.bool (p x))∧Below w1.heap.size w1 w'):
  Calls Tryz.prog 93 #[.slice A l.length c, .func (.func F) #[] cp] w fun e w'=>e= .returned (.int .i64 (idxF p l 0))∧Below w.heap.size w w':=by
 unfold maxLen at hl;have HP:=Lib.hid hp;clear hp;go_enter Tryz.func93,Tryz.ntmps93;go_wp2;go_loopw [8] (fun i wr=>Cnt l.length i fun k=>Below w.heap.size w wr∧Hid (idxF p l 0=idxF p (l.drop k) k)) (fun i _=>l.length - (intOf i).toNat)
 case atStart=>exact⟨0,Nat.zero_le _,rfl,Below.refl _ _,rfl⟩
 case round=>
  obtain⟨k,hk,rfl,hb,HV⟩:=hrel;by_cases hlt:k<l.length
  ·obtain⟨b,o,rfl,hbB,hcell⟩:=hr (by omega)
   have c0:=hcell k hlt;rw[←hb.cell (p:=⟨b,_,none⟩) hbB] at c0;have HD:=Lib.hid (Bzs (p:=p) hlt);have HM:=Lib.hid (List.getElem_mem hlt);clear hr hcell;cases hpk:p l[k] with
   | true=>
     have HK:=Lib.hid hpk;clear hpk;go_wp2_with fail;refine(HP.out _ HM.out _ hb).mono ?_;rw[HK.out];rintro e w1 ⟨rfl,hb1⟩;go_wp2;go_ret;exact⟨Az8 (by rw[HV.out,HD.out,if_pos HK.out]),hb.trans (hb1.mono hb.size)⟩
   | false=>
     have HK:=Lib.hid hpk;clear hpk;go_wp2_with fail;refine(HP.out _ HM.out _ hb).mono ?_;rw[HK.out];rintro e w1 ⟨rfl,hb1⟩;go_wp2;go_roundw
     case rel=>exact⟨k+1,by omega,by go_num,hb.trans (hb1.mono hb.size),by show _=_;rw[HV.out,HD.out,if_neg (by rw[HK.out];decide)]⟩
     case measure=>simp[intOf];omega
  ·go_wp2
   go_ret;exact⟨Az8 (by rw[HV.out,List.drop_of_length_le (by omega)];rfl),hb⟩
theorem Ezv (F:FuncId) (cp:Array Value) (p:UInt8→Bool) (A:Option Addr) (c:Nat) (l:List UInt8) (w:World) (hr:RdB w w.heap.size A l) (hl:l.length≤maxLen)
  (eg:∀ args w,(callFunc F args).run Tryz.prog w= .ok (.enter F args) w)
  (hp:∀ x∈l,∀ (w1:World),Below w.heap.size w w1→Calls Tryz.prog F (#[.int .u8 x.toNat]++cp) w1 fun e w'=>e= .returned (.bool (p x))∧Below w1.heap.size w1 w'):
  Calls Tryz.prog 73 #[.slice A l.length c, .func (.func F) #[] cp] w fun e w'=>e= .returned (.bool (l.any p))∧Below w.heap.size w w':=by
 have HP:=Lib.hid hp;have HE:=Lib.hid eg;clear hp eg;go_enter Tryz.func73,Tryz.ntmps73;go_wp2_with fail;refine(Gzo F cp p A c l w hr hl HE.out HP.out).mono ?_;rintro e w1 ⟨rfl,hb1⟩;go_wp2
 all_goals go_ret
 all_goals refine⟨Az9 ?_,hb1⟩
 all_goals rw[←Dzb p l 0]
def Ez3 (c:UInt8):Bool:=decide (c.toNat<97∨122<c.toNat)
theorem Mzp (c:UInt8) (w:World):
  Calls Tryz.prog 74 #[.int .u8 c.toNat] w fun e w'=>e= .returned (.bool (Ez3 c))∧w=w':=by
 go_enter Tryz.func74,Tryz.ntmps74;go_wp2
 all_goals go_ret
 all_goals refine⟨Az9 ?_,rfl⟩
 all_goals (rw[Bool.eq_iff_iff];simp[Ez3];omega)
theorem Jzl:∀ args w,(callFunc 74 args).run Tryz.prog w= .ok (.enter 74 args) w:=fun args w=>by
 simp only[callFunc,run_program,Sem.run_bind,Result.andThen_ok,Tryz.func74];rfl
def Azs (s:ByteArray):Bool:=decide (1≤s.size∧s.size≤6) && !(s.data.toList.any Ez3)
theorem Gzv (w:World) (s:ByteArray):∃ (cap:Nat) (w1:World),(convert 9 112 (.string s)).run Tryz.prog w= .ok (.slice (some ⟨w.heap.size,0,none⟩) s.data.toList.length cap) w1∧
  Below w.heap.size w w1∧RdB w1 w1.heap.size (some ⟨w.heap.size,0,none⟩) s.data.toList:=by
 refine⟨grownCap w s.size 0 5,Lib.bytesWorld w 5 s,(Lib.run_convert_string_bytes w 9 112 5 s Tryz.underlying9 Tryz.underlying112 Tryz.underlying5).trans ?_,⟨rfl,rfl,rfl,by rw[Lib.bytesWorld_size];omega,fun k hk=>Lib.bytesWorld_at_old w _ s k hk⟩,fun _=>⟨w.heap.size,0,rfl,by rw[Lib.bytesWorld_size];omega,fun k hk=>?_⟩⟩
 ·rw[show s.size=s.data.toList.length by simp]
 ·rw[Nat.zero_add,Lib.bytesWorld_cell w _ s k (by simpa using hk)]
  simp[List.getD,List.getElem?_eq_getElem hk]
theorem Dzr (s:ByteArray) (w:World) (hs:s.size≤maxLen):
  Calls Tryz.prog 35 #[.string s] w fun e w'=>e= .returned (.bool (Azs s))∧Below w.heap.size w w':=by
 have hl:s.data.toList.length≤maxLen:=by simpa using hs
 have HL:=Lib.hid hl;have hsz:s.data.toList.length=s.size:=by simp
 have hemp:s.toList=s.data.toList:=ByteArray.toList_eq s;unfold maxLen at hs;by_cases h0:s.size=0
 ·have hl0:s.toList=[]:=by rw[hemp];exact List.eq_nil_of_length_eq_zero (by omega)
  have hl1:(!s.toList.isEmpty)=false:=by rw[hl0];rfl
  have H0:=Lib.hid h0;clear h0 hemp hsz hl;go_enter Tryz.func35,Tryz.ntmps35;go_wp2;go_ret;exact⟨Az9 (by simp[Azs,H0.out]),Below.refl _ _⟩
 ·have hl0:¬ s.toList=[]:=fun e=>h0 (by rw[←hsz, ←hemp,e];rfl)
  have hl1:(!s.toList.isEmpty)=true:=by simp[hl0]
  by_cases h6:6<s.size
  ·have h6':(6:Int)<(s.size:Int):=by omega
   have H6:=Lib.hid h6;clear h0 hemp hsz hl h6;go_enter Tryz.func35,Tryz.ntmps35;go_wp2;go_ret;refine⟨Az9 ?_,Below.refl _ _⟩;have:=H6.out;simp[Azs];omega
  ·have h6':(s.size:Int)≤6:=by omega
   obtain⟨cap,w1,hcv,hb1,hr1⟩:=Gzv w s;have HS:=Lib.hid (show 1≤s.size∧s.size≤6 by omega);have HE:=Lib.hid hl0;clear h0 hemp hsz hl h6;go_enter Tryz.func35,Tryz.ntmps35;go_wp2_with fail;refine(Ezv 74 #[] Ez3 _ cap s.data.toList w1 hr1 HL.out Jzl (fun x _ w2 _=>(Mzp x w2).mono ?_)).mono ?_
   ·rintro e w3 ⟨rfl,rfl⟩
    exact⟨rfl,Below.refl _ _⟩
   rintro e w2 ⟨rfl,hb2⟩;go_wp2
   all_goals go_ret
   all_goals refine⟨Az9 ?_,hb1.trans (hb2.mono hb1.size)⟩
   all_goals simp[Azs,HS.out]
theorem Bzz (s:ByteArray) (w:World) (hs:s.size≤maxLen):
  Calls Tryz.prog 65 #[.string s] w fun e w'=>e= .returned (.bool (Azs s))∧w=w':=by
 unfold maxLen at hs;have hsz:s.data.toList.length=s.size:=by simp
 have H0:Hid (s.data.toList.any Ez3=(s.data.toList.drop 0).any Ez3):=rfl;go_enter Tryz.func65,Tryz.ntmps65;go_wp2;go_loop [3] (fun i=>Cnt s.size i fun k=>Hid (s.data.toList.any Ez3=(s.data.toList.drop k).any Ez3)) (fun i=>s.size - (intOf i).toNat)
 case atStart=>exact⟨0,Nat.zero_le _,rfl,H0⟩
 case round=>
  obtain⟨k,hk,rfl,HV⟩:=hrel;by_cases hlt:k<s.size
  ·have HD:Hid ((s.data.toList.drop k).any Ez3=(Ez3 s[k] || (s.data.toList.drop (k+1)).any Ez3)):=by
    show _=_;rw[List.drop_eq_getElem_cons (by omega),List.any_cons];rfl
   clear H0 hsz;have hx:(s[k].toNat:Int)≤255:=by have:=s[k].toNat_lt;omega
   cases hpk:Ez3 s[k] with
   | true=>
     have hin:inB (s[k].toNat:Int) 97 122=false:=by
      have:s[k].toNat<97∨122<s[k].toNat:=by simpa [Ez3] using hpk
      exact Azp (by omega)
     have HK:=Lib.hid hpk;clear hpk;go_wp2_with (go_at_call 21;refine(Azi _ _ _ _).mono ?_;rintro e w' ⟨rfl,rfl⟩);go_ret;exact⟨Az9 (by simp[Azs,HV.out,HD.out,HK.out]),rfl⟩
   | false=>
     have hin:inB (s[k].toNat:Int) 97 122=true:=by
      have:¬ (s[k].toNat<97∨122<s[k].toNat):=by simpa [Ez3] using hpk
      exact Azl (by omega) (by omega)
     have HK:=Lib.hid hpk;clear hpk;go_wp2_with (go_at_call 21;refine(Azi _ _ _ _).mono ?_;rintro e w' ⟨rfl,rfl⟩);exact⟨⟨k+1,by omega,by go_num,by show _=_;rw[HV.out,HD.out,HK.out];rfl⟩,by simp[intOf];omega⟩
  ·have HF:Hid (s.data.toList.any Ez3=false):=by
    show _=_;rw[HV.out,List.drop_of_length_le (by omega)];rfl
   clear H0 hsz;go_wp2_with (go_at_call 21;refine(Azi _ _ _ _).mono ?_;rintro e w' ⟨rfl,rfl⟩);go_ret;refine⟨Az9 ?_,rfl⟩;unfold Azs inB;rw[HF.out,Bool.eq_iff_iff];simp;omega
theorem Hzb (F:FuncId) (cp:Array Value) (p:Int→Bool) (A:Option Addr) (c:Nat) (l:List Int) (w:World) (hr:RdN w w.heap.size A l) (hl:l.length≤maxLen)
  (eg:∀ args w,(callFunc F args).run Tryz.prog w= .ok (.enter F args) w)
  (hp:∀ x∈l,∀ (w1:World),Below w.heap.size w w1→Calls Tryz.prog F (#[.int .i64 x]++cp) w1 fun e w'=>e= .returned (.bool (p x))∧Below w1.heap.size w1 w'):
  Calls Tryz.prog 72 #[.slice A l.length c, .func (.func F) #[] cp] w fun e w'=>e= .returned (.int .i64 (idxF p l 0))∧Below w.heap.size w w':=by
 unfold maxLen at hl;have HP:=Lib.hid hp;clear hp;go_enter Tryz.func72,Tryz.ntmps72;go_wp2;go_loopw [8] (fun i wr=>Cnt l.length i fun k=>Below w.heap.size w wr∧Hid (idxF p l 0=idxF p (l.drop k) k)) (fun i _=>l.length - (intOf i).toNat)
 case atStart=>exact⟨0,Nat.zero_le _,rfl,Below.refl _ _,rfl⟩
 case round=>
  obtain⟨k,hk,rfl,hb,HV⟩:=hrel;by_cases hlt:k<l.length
  ·obtain⟨b,o,rfl,hbB,hcell⟩:=hr (by omega)
   have c0:=hcell k hlt;rw[←hb.cell (p:=⟨b,_,none⟩) hbB] at c0;have HD:=Lib.hid (Bzs (p:=p) hlt);have HM:=Lib.hid (List.getElem_mem hlt);clear hr hcell;cases hpk:p l[k] with
   | true=>
     have HK:=Lib.hid hpk;clear hpk;go_wp2_with fail;refine(HP.out _ HM.out _ hb).mono ?_;rw[HK.out];rintro e w1 ⟨rfl,hb1⟩;go_wp2;go_ret;exact⟨Az8 (by rw[HV.out,HD.out,if_pos HK.out]),hb.trans (hb1.mono hb.size)⟩
   | false=>
     have HK:=Lib.hid hpk;clear hpk;go_wp2_with fail;refine(HP.out _ HM.out _ hb).mono ?_;rw[HK.out];rintro e w1 ⟨rfl,hb1⟩;go_wp2;go_roundw
     case rel=>exact⟨k+1,by omega,by go_num,hb.trans (hb1.mono hb.size),by show _=_;rw[HV.out,HD.out,if_neg (by rw[HK.out];decide)]⟩
     case measure=>simp[intOf];omega
  ·go_wp2
   go_ret;exact⟨Az8 (by rw[HV.out,List.drop_of_length_le (by omega)];rfl),hb⟩
theorem Bzy (F:FuncId) (cp:Array Value) (p:Int→Bool) (A:Option Addr) (c:Nat) (l:List Int) (w:World) (hr:RdN w w.heap.size A l) (hl:l.length≤maxLen)
  (eg:∀ args w,(callFunc F args).run Tryz.prog w= .ok (.enter F args) w)
  (hp:∀ x∈l,∀ (w1:World),Below w.heap.size w w1→Calls Tryz.prog F (#[.int .i64 x]++cp) w1 fun e w'=>e= .returned (.bool (p x))∧Below w1.heap.size w1 w'):
  Calls Tryz.prog 32 #[.slice A l.length c, .func (.func F) #[] cp] w fun e w'=>e= .returned (.bool (l.any p))∧Below w.heap.size w w':=by
 have HP:=Lib.hid hp;have HE:=Lib.hid eg;clear hp eg;go_enter Tryz.func32,Tryz.ntmps32;go_wp2_with fail;refine(Hzb F cp p A c l w hr hl HE.out HP.out).mono ?_;rintro e w1 ⟨rfl,hb1⟩;go_wp2
 all_goals go_ret
 all_goals refine⟨Az9 ?_,hb1⟩
 all_goals rw[←Dzb p l 0]
def Az7 (m:Mod):Int:=if Azs m.name then (if 64<m.data.length then 1 else if m.data.any oddW then 2 else verify m.code) else 4
theorem Lzh (n:Int) (w:World):
  Calls Tryz.prog 69 #[.int .i64 n] w fun e w'=>e= .returned (.bool (oddW n))∧w=w':=by
 go_enter Tryz.func69,Tryz.ntmps69;go_wp2
 all_goals go_ret
 all_goals refine⟨Az9 ?_,rfl⟩
 all_goals (rw[Bool.eq_iff_iff];simp[oddW];try omega)
theorem Iz8:∀ args w,(callFunc 69 args).run Tryz.prog w= .ok (.enter 69 args) w:=fun args w=>by
 simp only[callFunc,run_program,Sem.run_bind,Result.andThen_ok,Tryz.func69];rfl
theorem Fzg (m:Mod) (A A':Option Addr) (c c':Nat) (w:World) (hn:m.name.size≤maxLen) (hr:RdI w w.heap.size A m.code) (hr':RdN w w.heap.size A' m.data) (ht:Tab w) (hl:m.code.length≤maxLen) (hl':m.data.length≤maxLen):
  Calls Tryz.prog 29 #[.agg #[.string m.name, .slice A m.code.length c, .slice A' m.data.length c']] w fun e w'=>e= .returned (.int .i64 (Az7 m))∧Below w.heap.size w w':=by
 have HL:=Lib.hid hl;have HL':=Lib.hid hl';unfold maxLen at hl hl';have ha:∀ o,Below w.heap.size w (w.alloc o):=fun o=>(Below.refl _ _).alloc (Nat.le_refl _) o
 cases hnm:Azs m.name with
 | false=>
   have HN:=Lib.hid hnm;clear hnm;go_enter Tryz.func29,Tryz.ntmps29;go_wp2_with fail;refine(Dzr m.name _ hn).mono ?_;rw[HN.out];rintro e w1 ⟨rfl,hb1⟩;go_wp2;go_ret;exact⟨Az8 (by rw[Az7,HN.out];rfl),(ha _).trans (hb1.mono (by simp))⟩
 | true=>
   have HN:=Lib.hid hnm;clear hnm;by_cases h64:64<m.data.length
   ·have h65:(64:Int)<(m.data.length:Int):=by omega
    go_enter Tryz.func29,Tryz.ntmps29;go_wp2_with fail;refine(Dzr m.name _ hn).mono ?_;rw[HN.out];rintro e w1 ⟨rfl,hb1⟩;obtain⟨hc1,hf1⟩:=Ize hb1;go_wp2;go_ret;exact⟨Az8 (by rw[Az7,HN.out,if_pos rfl,if_pos h64]),(ha _).trans (hb1.mono (by simp))⟩
   ·have h65:(m.data.length:Int)≤64:=by omega
    go_enter Tryz.func29,Tryz.ntmps29;go_wp2_with fail;refine(Dzr m.name _ hn).mono ?_;rw[HN.out];rintro e w1 ⟨rfl,hb1⟩;obtain⟨hc1,hf1⟩:=Ize hb1;have hbw1:=(ha _).trans (hb1.mono (Nat.le_of_lt (by simp)));go_wp2_with fail;refine(Bzy 69 #[] oddW A' c' m.data w1 ((hr'.below hbw1).more hbw1.size) HL'.out Iz8 (fun x _ w2 _=>(Lzh x w2).mono ?_)).mono ?_
    ·rintro e w3 ⟨rfl,rfl⟩
     exact⟨rfl,Below.refl _ _⟩
    cases hod:m.data.any oddW with
    | true=>
      have HO:=Lib.hid hod;clear hod;rintro e w2 ⟨rfl,hb2⟩;go_wp2;go_ret;exact⟨Az8 (by rw[Az7,HN.out,if_pos rfl,if_neg h64,HO.out];rfl),hbw1.trans (hb2.mono hbw1.size)⟩
    | false=>
      have HO:=Lib.hid hod;clear hod;rintro e w2 ⟨rfl,hb2⟩;obtain⟨hc2,hf2⟩:=Ize hb2;have hbw2:=hbw1.trans (hb2.mono hbw1.size);have hz:=hb1.size;simp at hz;have hz1:w.heap.size<w1.heap.size:=by omega
      go_wp2_with fail;refine(Lzs A c m.code w2 ((hr.below hbw2).more hbw2.size) (ht.below hbw2) HL.out).mono ?_;rintro e w3 ⟨rfl,hb3⟩;go_wp2;go_ret;exact⟨Az8 (by rw[Az7,HN.out,if_pos rfl,if_neg h64,HO.out];rfl),hbw2.trans (hb3.mono hbw2.size)⟩
theorem Fzh (m:Mod) (A A':Option Addr) (c c':Nat) (w:World) (hn:m.name.size≤maxLen) (hr:RdI w w.heap.size A m.code) (hr':RdN w w.heap.size A' m.data) (hl:m.code.length≤maxLen) (hl':m.data.length≤maxLen):
  Calls Tryz.prog 57 #[.agg #[.string m.name, .slice A m.code.length c, .slice A' m.data.length c']] w fun e w'=>e= .returned (.int .i64 (Az7 m))∧Below w.heap.size w w':=by
 have HL:=Lib.hid hl;have HL':=Lib.hid hl';unfold maxLen at hl hl';have ha:∀ o,Below w.heap.size w (w.alloc o):=fun o=>(Below.refl _ _).alloc (Nat.le_refl _) o
 cases hnm:Azs m.name with
 | false=>
   have HN:=Lib.hid hnm;clear hnm;go_enter Tryz.func57,Tryz.ntmps57;go_wp2_with fail;refine(Bzz m.name _ hn).mono ?_;rw[HN.out];rintro e w1 ⟨rfl,rfl⟩;go_wp2;go_ret;exact⟨Az8 (by rw[Az7,HN.out];rfl),ha _⟩
 | true=>
   have HN:=Lib.hid hnm;clear hnm;by_cases h64:64<m.data.length
   ·have h65:(64:Int)<(m.data.length:Int):=by omega
    go_enter Tryz.func57,Tryz.ntmps57;go_wp2_with fail;refine(Bzz m.name _ hn).mono ?_;rw[HN.out];rintro e w1 ⟨rfl,rfl⟩;go_wp2;go_ret;exact⟨Az8 (by rw[Az7,HN.out,if_pos rfl,if_pos h64]),ha _⟩
   ·have h65:(m.data.length:Int)≤64:=by omega
    go_enter Tryz.func57,Tryz.ntmps57;go_wp2_with fail;refine(Bzz m.name _ hn).mono ?_;rw[HN.out];rintro e w1 ⟨rfl,rfl⟩;have hbw1:=ha (.cells #[.string m.name, .slice A m.code.length c, .slice A' m.data.length c'] 47);go_wp2_with fail;refine(Bzr A' c' m.data _ ((hr'.below hbw1).more hbw1.size) HL'.out).mono ?_;cases hod:m.data.any oddW with
    | true=>
      have HO:=Lib.hid hod;clear hod;rintro e w2 ⟨rfl,rfl⟩;go_wp2;go_ret;exact⟨Az8 (by rw[Az7,HN.out,if_pos rfl,if_neg h64,HO.out];rfl),hbw1⟩
    | false=>
      have HO:=Lib.hid hod;clear hod;rintro e w2 ⟨rfl,rfl⟩;go_wp2_with fail;refine(Hzh A c m.code _ ((hr.below hbw1).more hbw1.size) HL.out).mono ?_;rintro e w3 ⟨rfl,hb3⟩;go_wp2;go_ret;exact⟨Az8 (by rw[Az7,HN.out,if_pos rfl,if_neg h64,HO.out];rfl),hbw1.trans (hb3.mono hbw1.size)⟩
structure Mc where
 pos:Nat
 back:List Nat
 regs:List Nat
 told:List Nat
 mem:List Nat
def rg (s:Mc) (i:Int):Nat:=s.regs.getD i.toNat 0
def reck (x y op c:Nat):Nat:=
 if op=2 then (x+y) % 65536 else if op=3 then (x+65536 - y) % 65536 else if op=4 then x &&& y else if op=5 then x |||y else if op=6 then x ^^^ y
 else if op=7 then (if x<y then 1 else 0) else c
def step (l:List Ins) (s:Mc):Mc × Nat:=
 match l[s.pos]? with
 | none=>(s,3)
 | some i=>
   if i.op=8 then (if rg s i.b<s.mem.length then ({ s with pos:=s.pos+1,regs:=s.regs.set i.a.toNat (s.mem.getD (rg s i.b) 0) },0) else ({ s with pos:=s.pos+1 },3))
   else if i.op=9 then (if rg s i.b<s.mem.length then ({ s with pos:=s.pos+1,mem:=s.mem.set (rg s i.b) (rg s i.a) },0) else ({ s with pos:=s.pos+1 },3))
   else if i.op=10 then ({ s with pos:=i.c.toNat },0)
   else if i.op=11 then ({ s with pos:=if rg s i.a=0 then i.c.toNat else s.pos+1 },0)
   else if i.op=12 then (if s.back.length=16 then ({ s with pos:=s.pos+1 },4) else ({ s with pos:=i.c.toNat,back:=s.back++ [s.pos+1] },0))
   else if i.op=13 then (if s.back.length=0 then ({ s with pos:=s.pos+1 },1) else ({ s with pos:=s.back.getD (s.back.length - 1) 0,back:=s.back.take (s.back.length - 1) },0))
   else if i.op=14 then (if s.told.length=100 then ({ s with pos:=s.pos+1 },5) else ({ s with pos:=s.pos+1,told:=s.told++ [rg s i.a] },0))
   else if i.op=15 then ({ s with pos:=s.pos+1 },1)
   else ({ s with pos:=s.pos+1,regs:=s.regs.set i.a.toNat (reck (rg s i.b) (rg s (i.c % 8)) i.op.toNat i.c.toNat) },0)
def runs (l:List Ins):Nat→Mc→Mc × Nat
 | 0,s=>(s,2)
 | n+1,s=>if (step l s).2=0 then runs l n (step l s).1 else step l s
theorem Iz2 {l:List Ins} {n:Nat} {s:Mc} (h:(step l s).2=0):runs l (n+1) s=runs l n (step l s).1:=by simp[runs,h]
theorem Bzt {l:List Ins} {n:Nat} {s:Mc} (h:(step l s).2≠0):runs l (n+1) s=step l s:=by simp[runs,h]
structure InsOk (i:Ins):Prop where
 op1:1≤i.op
 op2:i.op≤15
 a0:0≤i.a
 a7:i.a≤7
 b0:0≤i.b
 b7:i.b≤7
 c0:0≤i.c
 cw:i.c≤65535
 c7:2≤i.op→i.op≤7→i.c≤7
def Ez7 (l:List Ins):Prop:=∀ i∈l,InsOk i
structure McOk (s:Mc):Prop where
 regs:s.regs.length=8
 rw:∀ x∈s.regs,x≤65535
 mw:∀ x∈s.mem,x≤65535
 back:s.back.length≤16
 told:s.told.length≤100
theorem Gzc {l:List Nat} {b:Nat} (h:∀ x∈l,x≤b) (k:Nat):l.getD k 0≤b:=by
 rw[List.getD_eq_getElem?_getD];cases hk:l[k]? with
 | none=>simp
 | some v=>exact h v (List.mem_of_getElem? hk)
theorem Oz5 {l:List Nat} {b:Nat} (h:∀ x∈l,x≤b) (k v:Nat) (hv:v≤b):∀ x∈l.set k v,x≤b:=fun x hx=>by
 rcases List.mem_or_eq_of_mem_set hx with h1|h1
 ·exact h x h1
 ·omega
theorem Oz1 {s:Mc} (h:McOk s) (i:Int):rg s i≤65535:=Gzc h.rw _
theorem Rzw {x y op c:Nat} (hx:x≤65535) (hy:y≤65535) (hc:c≤65535):reck x y op c≤65535:=by
 unfold reck;have h1:x &&& y<2 ^ 16:=Nat.and_lt_two_pow x (by omega);have h2:x |||y<2 ^ 16:=Nat.or_lt_two_pow (by omega) (by omega);have h3:x ^^^ y<2 ^ 16:=Nat.xor_lt_two_pow (by omega) (by omega)
 repeat' split
 all_goals omega
theorem step_ok {l:List Ins} {s:Mc} (hl:Ez7 l) (h:McOk s):McOk (step l s).1:=by
 unfold step;cases hi:l[s.pos]? with
 | none=>exact h
 | some i=>
   have hk:=hl i (List.mem_of_getElem? hi);have hcc:i.c.toNat≤65535:=by have:=hk.cw;omega
   have hm:=Gzc h.mw (rg s i.b);have hra:=Oz1 h i.a;have hrk:=Rzw (op:=i.op.toNat) (Oz1 h i.b) (Oz1 h (i.c % 8)) hcc;simp only
   repeat' split
   all_goals first
    | exact⟨h.regs,h.rw,h.mw,h.back,h.told⟩
    | exact⟨by simpa using h.regs,Oz5 h.rw _ _ hm,h.mw,h.back,h.told⟩
    | exact⟨h.regs,h.rw,Oz5 h.mw _ _ hra,h.back,h.told⟩
    | exact⟨by simpa using h.regs,Oz5 h.rw _ _ hrk,h.mw,h.back,h.told⟩
    | exact⟨h.regs,h.rw,h.mw,by have:=h.back;simp;omega,h.told⟩
    | exact⟨h.regs,h.rw,h.mw,h.back,by have:=h.told;simp;omega⟩
theorem Gz3 {l:List Ins} {s:Mc}:(step l s).1.mem.length=s.mem.length:=by
 unfold step;cases l[s.pos]? with
 | none=>rfl
 | some i=>
   simp only
   repeat' split
   all_goals simp
theorem Gz2 {l:List Ins}:∀ (n:Nat) (s:Mc),(runs l n s).1.mem.length=s.mem.length
 | 0,s=>rfl
 | n+1,s=>by
   by_cases h:(step l s).2=0
   ·rw[Iz2 h,Gz2 n,Gz3]
   ·rw[Bzt h,Gz3]
theorem Oz4 {l:List Ins} (hl:Ez7 l):∀ (n:Nat) (s:Mc),McOk s→McOk (runs l n s).1
 | 0,s,h=>h
 | n+1,s,h=>by
   by_cases h0:(step l s).2=0
   ·rw[Iz2 h0];exact Oz4 hl n _ (step_ok hl h)
   ·rw[Bzt h0];exact step_ok hl h
end Go.Proofs.YtdjamdbamkhblacGreatDoor
