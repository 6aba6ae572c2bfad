/- The walk of kern.Check: what it answers, for every kernel. Condition: the listed tables. -/
import Derived.Test.YtdjamdbamkhblacGreatDoorG08
set_option maxHeartbeats 4000000
set_option maxRecDepth 100000
namespace Go.Proofs.YtdjamdbamkhblacGreatDoor
open Go.RowKit
set_option linter.unusedVariables false
set_option linter.unusedSimpArgs false
theorem Gzx {k:Krn} (h:8<k.mods.length∨k.mem.length≠1024∨k.nodes.length≠8∨k.pipes.length≠6∨k.procs.length≠4):Azm k=1:=by unfold Azm;rw[if_pos h]
theorem Gzy {k:Krn} (h0:k.mods.length≤8) (h1:k.mem.length=1024) (h2:k.nodes.length=8) (h3:k.pipes.length=6) (h4:k.procs.length=4):
  Azm k=if Cz8 [] k.mods=0 then (if k.mem.any oddW then 2 else if anyI (Azn k) k.nodes 0 || k.procs.any (Azt k) || anyI (Azu k) k.pipes 0 then 9 else 0) else Cz8 [] k.mods:=by
 unfold Azm;rw[if_neg (by omega)]
theorem Lzk (k:Krn) (a:KA) (w:World) (h:8<k.mods.length∨k.mem.length≠1024∨k.nodes.length≠8∨k.pipes.length≠6∨k.procs.length≠4):
  Calls Tryz.prog 13 #[.agg (a.cells k)] w fun e w'=>e= .returned (.int .i64 (Azm k))∧Below w.heap.size w w':=by
 have HV:=Lib.hid (Gzx h);have HB:=Lib.hid (fun o=>Az6 w o);unfold KA.cells;by_cases h0:8<k.mods.length
 ·have h0':(8:Int)<(k.mods.length:Int):=by omega
  clear h h0;go_enter Tryz.func13,Tryz.ntmps13;go_wp2;go_ret;exact⟨Az8 HV.out.symm,HB.out _⟩
 have h0':(k.mods.length:Int)≤8:=by omega
 by_cases h1:k.mem.length≠1024
 ·have h1':((k.mem.length:Int) != 1024)=true:=by rw[bne_iff_ne];omega
  clear h h0 h1;go_enter Tryz.func13,Tryz.ntmps13;go_wp2;go_ret;exact⟨Az8 HV.out.symm,HB.out _⟩
 have h:=(h.resolve_left h0).resolve_left h1;have h1:=Decidable.not_not.1 h1;rw[h1];by_cases h2:k.nodes.length≠8
 ·have h2':((k.nodes.length:Int) != 8)=true:=by rw[bne_iff_ne];omega
  clear h h0 h1 h2;go_enter Tryz.func13,Tryz.ntmps13;go_wp2;go_ret;exact⟨Az8 HV.out.symm,HB.out _⟩
 have h:=h.resolve_left h2;have h2:=Decidable.not_not.1 h2;rw[h2];by_cases h3:k.pipes.length≠6
 ·have h3':((k.pipes.length:Int) != 6)=true:=by rw[bne_iff_ne];omega
  clear h h0 h1 h2 h3;go_enter Tryz.func13,Tryz.ntmps13;go_wp2;go_ret;exact⟨Az8 HV.out.symm,HB.out _⟩
 have h:=h.resolve_left h3;have h3:=Decidable.not_not.1 h3;rw[h3];have h4':((k.procs.length:Int) != 4)=true:=by rw[bne_iff_ne];omega
 clear h h0 h1 h2 h3;go_enter Tryz.func13,Tryz.ntmps13;go_wp2;go_ret;exact⟨Az8 HV.out.symm,HB.out _⟩
theorem Lzl (k:Krn) (a:KA) (w:World) (hK:KrnAt w w.heap.size a k) (hS:k.small) (hC:a.caps k) (ht:Tab w) (h0:k.mods.length≤8) (h1:k.mem.length=1024) (h2:k.nodes.length=8) (h3:k.pipes.length=6) (h4:k.procs.length=4):
  Calls Tryz.prog 13 #[.agg (a.cells k)] w fun e w'=>e= .returned (.int .i64 (Azm k))∧Below w.heap.size w w':=by
 have HV:=Lib.hid (Gzy h0 h1 h2 h3 h4);have hB0:=Az6 w (.cells (a.cells k) 30);have HK:=Lib.hid ((hK.below hB0).more hB0.size);have HT:=Lib.hid (ht.below hB0);have HX:=Lib.hid (Blk.new w 30 (a.cells k));have hlt0:=HX.out.lt;have HB:=Lib.hid hB0;unfold KA.cells at HK HT HX hlt0 HB ⊢;rw[h1,h2,h3,h4] at HK HT HX hlt0 HB ⊢;have h0i:(k.mods.length:Int)≤8:=by omega
 obtain⟨x0,x1,x2,x3,x4, -⟩:=HX.out.a5;simp at x0 x1 x2 x3 x4;clear hK ht hB0 x0 x1 x2 x3 x4;go_enter Tryz.func13,Tryz.ntmps13;go_wp2;generalize w.alloc (.cells #[.slice a.a0 k.mods.length a.c0, .slice a.a1 1024 a.c1, .slice a.a2 8 a.c2, .slice a.a3 6 a.c3, .slice a.a4 4 a.c4] 30)=W0 at*;go_loopw [43] (fun i wr=>Cnt k.mods.length i fun n=>Below W0.heap.size W0 wr∧Hid (Cz8 [] k.mods=Cz8 (k.mods.take n) (k.mods.drop n))) (fun i _=>k.mods.length - (intOf i).toNat)
 case atStart=>exact⟨0,Nat.zero_le _,rfl,Below.refl _ _,by show _=_;simp⟩
 case round=>
  obtain⟨n,hn,rfl,hb,HE⟩:=hrel;by_cases hlt:n<k.mods.length
  ·obtain⟨b,o,e1,hbB,hcell⟩:=(HK.out.mods.below hb) (by omega)
   obtain⟨A1,c1,A2,c2,z0,z1,z2,z3⟩:=hcell n hlt;obtain⟨m,hm⟩:∃ m,m=k.mods[n]:=⟨_,rfl⟩;have HD:=Lib.hid (Hz2 hlt);rw[←hm] at z0 z1 z2 z3 HD;rw[e1];have hbs:b<wr.heap.size:=Nat.lt_of_lt_of_le hbB hb.size;have hb1:=Az6 wr (.cells #[.string m.name, .slice A1 m.code.length c1, .slice A2 m.data.length c2] 47);have HBM:=Lib.hid (Blk.new wr 47 #[.string m.name, .slice A1 m.code.length c1, .slice A2 m.data.length c2]);have HZ:=Lib.hid (((z3.more hb.size).keep (fun _ hp=>hb1.cell hp)).more hb1.size);have hw1:=hb.trans (hb1.mono hb.size);have HM:=Lib.hid (Fzg m A1 A2 c1 c2 _ (by have:=HZ.out.nm;unfold maxLen;omega) HZ.out.code HZ.out.data (HT.out.below hw1) (by have:=HZ.out.cl;unfold maxLen;omega) (by have:=HZ.out.dl;unfold maxLen;omega));have HW1:=Lib.hid hw1;have HE1:=Lib.hid e1;have HN1:=Lib.hid hm;clear hcell z3 hb hb1 hw1 e1 hm HZ;by_cases hmc:Az7 m=0
   ·rw[hmc] at HM
    have hcap:(n:Int)≤(a.c0:Int):=by have:=hC.m;omega
    have hlen:(k.mods.take n).length=n:=by rw[List.length_take];omega
    have HF:Hid (Cz8 [] k.mods=if (k.mods.take n).any (fun x=>x.name == m.name) then 7 else Cz8 (k.mods.take (n+1)) (k.mods.drop (n+1))):=by show _=_;rw[HE.out,HD.out,if_pos hmc]
    clear hmc;go_wp2_with fail;refine HM.out.mono ?_;rintro e w1 ⟨rfl,hb1⟩;have hw1:=HW1.out.trans (hb1.mono HW1.out.size);have hk1:=Nat.lt_of_lt_of_le hlt0 hw1.size;have c0:=(HX.out.below hw1 hlt0).cell 0;simp at c0;have hMB:=HBM.out.below hb1 HBM.out.lt;have HCF:=Lib.hid (Dzi 31 #[.pointer (some ⟨wr.heap.size,0,none⟩)] (fun x=>x.name == m.name) a.a0 a.c0 (k.mods.take n) w1 (((HK.out.mods.take n).below hw1).more hw1.size) (by rw[hlen];unfold maxLen;omega) Hzd (fun x _ w2 A3 c3 A4 c4 hw2 hz=>Jzf x.name _ _ wr.heap.size m.name w2 (Nat.lt_of_lt_of_le hMB.lt hw2.size) ((hMB.below hw2 hMB.lt).cell 0)));rw[hlen,HE1.out] at HCF;have HW:=Lib.hid hw1;clear hMB hw1 hb1 HBM HM hlen;rw[HE1.out] at c0;cases hd:(k.mods.take n).any (fun x=>x.name == m.name) with
    | true=>
      have HG:Hid (Azm k=7):=by show _=_;rw[HV.out,HF.out,hd];rfl
      rw[hd] at HCF;clear hd;go_wp2_with fail;refine HCF.out.mono ?_;rintro e w2 ⟨rfl,hb2⟩;have hf:=HB.out.trans ((HW.out.trans (hb2.mono HW.out.size)).mono (Nat.le_of_lt hlt0));go_wp2;go_ret;exact⟨Az8 HG.out.symm,hf⟩
    | false=>
      have HG:Hid (Cz8 [] k.mods=Cz8 (k.mods.take (n+1)) (k.mods.drop (n+1))):=by show _=_;rw[HF.out,hd];rfl
      rw[hd] at HCF;clear hd;go_wp2_with fail;refine HCF.out.mono ?_;rintro e w2 ⟨rfl,hb2⟩;have hf:=HW.out.trans (hb2.mono HW.out.size);go_wp2;go_roundw
      case rel=>exact⟨n+1,by omega,by go_num,hf,HG⟩
      case measure=>simp[intOf];omega
   ·have hmn:(Az7 m != 0)=true:=by rw[bne_iff_ne];exact hmc
    have HF:Hid (Cz8 [] k.mods=Az7 m):=by show _=_;rw[HE.out,HD.out,if_neg hmc]
    have HG:Hid (Azm k=Az7 m):=by show _=_;rw[HV.out,HF.out,if_neg hmc]
    clear hmc;go_wp2_with fail;refine HM.out.mono ?_;rintro e w1 ⟨rfl,hb1⟩;have hf:=HB.out.trans ((HW1.out.trans (hb1.mono HW1.out.size)).mono (Nat.le_of_lt hlt0));go_wp2;go_ret;exact⟨Az8 HG.out.symm,hf⟩
  ·obtain rfl:n=k.mods.length:=by omega
   have HF:Hid (Azm k=(if k.mem.any oddW then 2 else if anyI (Azn k) k.nodes 0 || k.procs.any (Azt k) || anyI (Azu k) k.pipes 0 then 9 else 0)):=by
    show _=_;rw[HV.out,if_pos (by rw[HE.out,List.take_length,List.drop_length];rfl)]
   have c1:=(HX.out.below hb hlt0).cell 1;simp at c1;have HCF:=Lib.hid (Bzy 33 #[] oddW a.a1 a.c1 k.mem wr ((HK.out.mem.below hb).more hb.size) (by rw[h1];unfold maxLen;omega) Hze (fun x _ w2 _=>(Jzg x w2).mono fun e w' ⟨he,hw⟩=>by subst hw;exact⟨he,Below.refl _ _⟩));rw[h1] at HCF;have HW:=Lib.hid hb;clear HE HV hb hlt hn;cases hd:k.mem.any oddW with
   | true=>
     rw[hd] at HCF HF;clear hd;go_wp2_with fail;refine HCF.out.mono ?_;rintro e w1 ⟨rfl,hb1⟩;have hf:=HB.out.trans ((HW.out.trans (hb1.mono HW.out.size)).mono (Nat.le_of_lt hlt0));go_wp2;go_ret;exact⟨Az8 HF.out.symm,hf⟩
   | false=>
     rw[hd] at HCF;have HV:Hid (Azm k=(if anyI (Azn k) k.nodes 0 || k.procs.any (Azt k) || anyI (Azu k) k.pipes 0 then 9 else 0)):=by show _=_;rw[HF.out,hd];rfl
     clear hd HF;go_wp2_with fail;refine HCF.out.mono ?_;rintro e w1 ⟨rfl,hb1⟩;have hb:=HW.out.trans (hb1.mono HW.out.size);clear HW HCF hb1 c1;have c2:=(HX.out.below hb hlt0).cell 2;simp at c2;have HW:=Lib.hid hb;clear hb;go_wp2;clear c2;go_loopw [66] (fun i wr=>Cnt 8 i fun n=>Below W0.heap.size W0 wr∧Hid (anyI (Azn k) k.nodes 0=anyI (Azn k) (k.nodes.drop n) n)) (fun i _=>8 - (intOf i).toNat)
     case atStart=>exact⟨0,Nat.zero_le _,rfl,HW.out,by show _=_;simp⟩
     case round=>
      clear HW;obtain⟨n,hn,rfl,hb,HE⟩:=hrel;by_cases hlt:n<8
      ·have hlt':n<k.nodes.length:=by omega
       obtain⟨b,o,e1,hbB,hcell⟩:=(HK.out.nodes.below hb) (by omega);obtain⟨z0,z1,z2,z3⟩:=hcell n hlt';obtain⟨x,hx⟩:∃ x,x=k.nodes[n]:=⟨_,rfl⟩;have HD:=Lib.hid (Ezc (p:=Azn k) hlt');have hsz:=hS.nodes _ (List.getElem_mem hlt');rw[←hx] at z0 z1 z2 z3 HD hsz;rw[e1];have hbs:b<wr.heap.size:=Nat.lt_of_lt_of_le hbB hb.size;have hb1:=Az6 wr (.cells #[.string x.name, .int .i64 x.kind, .string x.data, .int .i64 x.unit] 49);have hw1:=hb.trans (hb1.mono hb.size);have hXB:=HX.out.below hw1 hlt0;have hMB:=Blk.new wr 49 #[.string x.name, .int .i64 x.kind, .string x.data, .int .i64 x.unit];have HN:=Lib.hid (Pzf (.slice a.a1 1024 a.c1) (.slice a.a3 6 a.c3) (.slice a.a4 4 a.c4) a.a0 k.mods.length a.c0 a.a2 a.c2 k.nodes n _ ((HK.out.nodes.below hw1).more hw1.size) (by rw[h2];unfold maxLen;omega) hlt' (by unfold maxLen;omega) (by rw[←hx];exact hsz.2));rw[h2, ←hx] at HN;have HBad:Hid (Azn k n x=true→Azm k=9):=fun g=>by rw[HV.out,HE.out,HD.out,g];rfl
       have HGood:Hid (Azn k n x=false→anyI (Azn k) k.nodes 0=anyI (Azn k) (k.nodes.drop (n+1)) (n+1)):=fun g=>by rw[HE.out,HD.out,g];rfl
       have HSZ:=Lib.hid hsz;have HW1:=Lib.hid hw1;have HXB:=Lib.hid hXB;have HMB:=Lib.hid hMB;have HE1:=Lib.hid e1;have c0:=hXB.c5;have d0:=hMB.c4;clear hcell hb hb1 hw1 e1 hx HE HD hXB hMB hsz hlt';obtain⟨c0,c1,c2,c3,c4⟩:=c0;have hkw:w.heap.size<wr.heap.size+1:=by have:=HXB.out.lt;simpa using this
       cases ho:Bz6 k.mods.length x with
       | false=>
         rw[ho] at HN;have HG:=Lib.hid (HBad.out (Ezk ho));clear ho d0;go_wp2_with fail;refine HN.out.mono ?_;rintro e w1 ⟨rfl,hb1⟩;have hf:=HB.out.trans ((HW1.out.trans (hb1.mono HW1.out.size)).mono (Nat.le_of_lt hlt0));go_wp2;go_ret;exact⟨Az8 HG.out.symm,hf⟩
       | true=>
         rw[ho] at HN;have hq:=HW1.out;cases hem:empS x.name with
         | true=>
           have HF:=Lib.hid (Ez1 (i:=n) ho hem);have hl0:x.name.toList=[]:=by rw[Bz5] at hem;simpa using hem
           by_cases hk0:x.kind=0
           ·have HG:=Lib.hid (HGood.out (by rw[HF.out,hk0];rfl))
            have hk0':(x.kind != 0)=false:=by rw[hk0];rfl
            have hk00:(x.kind == 0)=true:=by rw[hk0];rfl
            clear ho hem hk0 hq;go_wp2_with fail;refine HN.out.mono ?_;rintro e w1 ⟨rfl,hb1⟩;have hf:=HW1.out.trans (hb1.mono HW1.out.size);have hm1:=HMB.out.below hb1 HMB.out.lt;obtain⟨m0,m1,m2,m3⟩:=hm1.c4;have hz1:=hm1.lt;clear hb1 hm1;go_wp2;go_roundw
            case rel=>exact⟨n+1,by omega,by go_num,hf,HG⟩
            case measure=>simp[intOf];omega
           ·have hk0':(x.kind != 0)=true:=by rw[bne_iff_ne];exact hk0
            have hk00:(x.kind == 0)=false:=by rw[beq_eq_false_iff_ne];exact hk0
            clear ho hem hk0 hq;go_wp2_with fail;refine HN.out.mono ?_;rintro e w1 ⟨rfl,hb1⟩;have hf:=HW1.out.trans (hb1.mono HW1.out.size);have hm1:=HMB.out.below hb1 HMB.out.lt;obtain⟨m0,m1,m2,m3⟩:=hm1.c4;have hz1:=hm1.lt;have hx1:=HXB.out.below hb1 HXB.out.lt;obtain⟨y0,y1,y2,y3,y4⟩:=hx1.c5;have hz2:=hx1.lt;have HH:=Lib.hid (Dzz (.slice a.a0 k.mods.length a.c0) (.slice a.a1 1024 a.c1) (.slice a.a2 8 a.c2) (.slice a.a3 6 a.c3) a.a4 a.c4 k.procs 1 (n:Int) w1 ((HK.out.procs.below hf).more hf.size) (by rw[h4];unfold maxLen;omega));rw[h4] at HH;have HW:=Lib.hid hf;clear hb1 hm1 hf hx1;cases hh:hasE k.procs 1 (n:Int) with
            | true=>
              have HG:=Lib.hid (HGood.out (by rw[HF.out,hh];simp));rw[hh] at HH;clear hh;go_wp2_with fail;refine HH.out.mono ?_;rintro e w2 ⟨rfl,hb2⟩;have hf:=HW.out.trans (hb2.mono HW.out.size);go_wp2;go_roundw
              case rel=>exact⟨n+1,by omega,by go_num,hf,HG⟩
              case measure=>simp[intOf];omega
            | false=>
              have HG:=Lib.hid (HBad.out (by rw[HF.out,hh,hk0'];rfl));rw[hh] at HH;clear hh;go_wp2_with fail;refine HH.out.mono ?_;rintro e w2 ⟨rfl,hb2⟩;have hf:=HB.out.trans ((HW.out.trans (hb2.mono HW.out.size)).mono (Nat.le_of_lt hlt0));go_wp2;go_ret;exact⟨Az8 HG.out.symm,hf⟩
         | false=>
           have HF:=Lib.hid (Fzq (i:=n) ho hem);have hl0:x.name.toList≠ []:=by rw[Bz5] at hem;simpa using hem
           have hl1:(!x.name.toList.isEmpty)=true:=by simpa using hl0
           clear ho hem hq;have HNM:=HSZ.out.1;go_wp2_with fail;refine HN.out.mono ?_;rintro e w1 ⟨rfl,hb1⟩;have hf:=HW1.out.trans (hb1.mono HW1.out.size);have hm1:=HMB.out.below hb1 HMB.out.lt;obtain⟨m0,m1,m2,m3⟩:=hm1.c4;have hz1:=hm1.lt;have HM1:=Lib.hid hm1;have HW2:=Lib.hid hf;have HNA:=Lib.hid (Dzr x.name w1 HNM);have HX1:=Lib.hid (HXB.out.below hb1 HXB.out.lt);clear hb1 hm1 hf HNM c0 c1 c2 c3 c4 d0 HN;cases hnm:Azs x.name with
           | false=>
             have HG:=Lib.hid (HBad.out (by rw[HF.out,hnm];rfl));rw[hnm] at HNA;clear hnm;go_wp2_with fail;refine HNA.out.mono ?_;rintro e w2 ⟨rfl,hb2⟩;have hf:=HB.out.trans ((HW2.out.trans (hb2.mono HW2.out.size)).mono (Nat.le_of_lt hlt0));go_wp2;go_ret;exact⟨Az8 HG.out.symm,hf⟩
           | true=>
             rw[hnm] at HNA;go_wp2_with fail;refine HNA.out.mono ?_;rintro e w2 ⟨rfl,hb2⟩;have hf:=HW2.out.trans (hb2.mono HW2.out.size);have hm2:=HM1.out.below hb2 HM1.out.lt;obtain⟨p0,p1,p2,p3⟩:=hm2.c4;have hz2:=hm2.lt;have hx2:=HX1.out.below hb2 HX1.out.lt;obtain⟨y0,y1,y2,y3,y4⟩:=hx2.c5;have hz3:=hx2.lt;have HX2:=Lib.hid hx2;have HM2:=Lib.hid hm2;have HW3:=Lib.hid hf;clear hb2 hm2 hf hx2 m0 m1 m2 m3 HNA;by_cases hk0:x.kind=0
             ·have HG:=Lib.hid (HBad.out (by rw[HF.out,hk0];simp))
              have hk0':(x.kind != 0)=false:=by rw[hk0];rfl
              have hk00:(x.kind == 0)=true:=by rw[hk0];rfl
              have hff:=HB.out.trans (HW3.out.mono (Nat.le_of_lt hlt0));clear hk0 hnm;go_wp2;go_ret;exact⟨Az8 HG.out.symm,hff⟩
             ·have hk0':(x.kind != 0)=true:=by rw[bne_iff_ne];exact hk0
              have hk00:(x.kind == 0)=false:=by rw[beq_eq_false_iff_ne];exact hk0
              have hcap:(n:Int)≤(a.c2:Int):=by have:=hC.d;omega
              have hlen:(k.nodes.take n).length=n:=by rw[List.length_take];omega
              have HCF:=Lib.hid (Fzv 37 #[.pointer (some ⟨wr.heap.size,0,none⟩)] (fun y=>y.name == x.name) a.a2 a.c2 (k.nodes.take n) w2 (((HK.out.nodes.take n).below HW3.out).more HW3.out.size) (by rw[hlen];unfold maxLen;omega) Hzf (fun y _ w3 hw3=>Jzh y.name _ _ _ wr.heap.size x.name w3 (Nat.lt_of_lt_of_le HM2.out.lt hw3.size) ((HM2.out.below hw3 HM2.out.lt).cell 0)));rw[hlen,HE1.out] at HCF;rw[HE1.out] at y2;have HF2:Hid (Azn k n x=(k.nodes.take n).any (fun y=>y.name == x.name)):=by show _=_;rw[HF.out,hnm,hk00];rfl
              clear hk0 hnm hlen;cases hd:(k.nodes.take n).any (fun y=>y.name == x.name) with
              | true=>
                have HG:=Lib.hid (HBad.out (by rw[HF2.out,hd]));rw[hd] at HCF;clear hd;go_wp2_with fail;refine HCF.out.mono ?_;rintro e w3 ⟨rfl,hb3⟩;have hf:=HB.out.trans ((HW3.out.trans (hb3.mono HW3.out.size)).mono (Nat.le_of_lt hlt0));go_wp2;go_ret;exact⟨Az8 HG.out.symm,hf⟩
              | false=>
                have HG:=Lib.hid (HGood.out (by rw[HF2.out,hd]));rw[hd] at HCF;clear hd;go_wp2_with fail;refine HCF.out.mono ?_;rintro e w3 ⟨rfl,hb3⟩;have hf:=HW3.out.trans (hb3.mono HW3.out.size);have hm3:=HM2.out.below hb3 HM2.out.lt;obtain⟨q0,q1,q2,q3⟩:=hm3.c4;have hz4:=hm3.lt;clear hb3 hm3 p0 p1 p2 p3;go_wp2;go_roundw
                case rel=>exact⟨n+1,by omega,by go_num,hf,HG⟩
                case measure=>simp[intOf];omega
      ·obtain rfl:n=8:=by omega
       have HV3:Hid (Azm k=(if k.procs.any (Azt k) || anyI (Azu k) k.pipes 0 then 9 else 0)):=by
        show _=_;rw[HV.out,HE.out,List.drop_of_length_le (by omega)];rfl
       have c4:=(HX.out.below hb hlt0).cell 4;simp at c4;have HW:=Lib.hid hb;clear HE HV hb hlt hn;go_wp2;clear c4;go_loopw [119] (fun i wr=>Cnt 4 i fun n=>Below W0.heap.size W0 wr∧Hid (k.procs.any (Azt k)=(k.procs.drop n).any (Azt k))) (fun i _=>4 - (intOf i).toNat)
       case atStart=>exact⟨0,Nat.zero_le _,rfl,HW.out,by show _=_;simp⟩
       case round=>
        clear HW;obtain⟨n,hn,rfl,hb,HE⟩:=hrel;by_cases hlt:n<4
        ·have hlt':n<k.procs.length:=by omega
         obtain⟨b,o,e1,hbB,hcell⟩:=(HK.out.procs.below hb) (by omega);obtain⟨A1,c1,z0,z1,hz⟩:=hcell n hlt';obtain⟨x,hx⟩:∃ x,x=k.procs[n]:=⟨_,rfl⟩;have HD:Hid ((k.procs.drop n).any (Azt k)=(Azt k x || (k.procs.drop (n+1)).any (Azt k))):=by
          show _=_;rw[List.drop_eq_getElem_cons hlt',List.any_cons,hx]
         rw[←hx] at z0 z1 hz;rw[e1];have hbs:b<wr.heap.size:=Nat.lt_of_lt_of_le hbB hb.size;have hel:x.ends.length≤9223372036854775807:=by have:=hz.el;omega
         have HBad:Hid (Azt k x=true→Azm k=9):=fun g=>by rw[HV3.out,HE.out,HD.out,g];rfl
         have HGood:Hid (Azt k x=false→k.procs.any (Azt k)=(k.procs.drop (n+1)).any (Azt k)):=fun g=>by rw[HE.out,HD.out,g];rfl
         by_cases h6:x.ends.length=6
         ·have hb1:=Az6 wr (.cells #[.bool x.live, .slice A1 6 c1] 52)
          have hw1:=hb.trans (hb1.mono hb.size);have hXB:=HX.out.below hw1 hlt0;have hMB:=Blk.new wr 52 #[.bool x.live, .slice A1 6 c1];have hRE:=((hz.ends.more hb.size).keep (fun _ hp=>hb1.cell hp)).more hb1.size;have HCF:=Lib.hid (Dzj 40 #[.pointer (some ⟨w.heap.size,0,none⟩), .pointer (some ⟨wr.heap.size,0,none⟩)] (fun y=> !endOk k y || (!x.live && (y.kind != 0))) A1 c1 x.ends _ hRE (by unfold maxLen;omega) Hzg (fun y _ w3 hw3=>by
           obtain⟨u0,u1,u2,u3,u4⟩:=(hXB.below hw3 hXB.lt).c5;exact Jzi k y _ _ _ _ (.slice A1 6 c1) a.a2 a.c2 w.heap.size wr.heap.size x.live w3 (Nat.lt_of_lt_of_le hXB.lt hw3.size) (Nat.lt_of_lt_of_le hMB.lt hw3.size) u0 u1 (by rw[h2];exact u2) u3 u4 ((hMB.below hw3 hMB.lt).cell 0) ((HK.out.nodes.below (hw1.trans (hw3.mono hw1.size))).more (Nat.le_trans hw1.size hw3.size)) h2))
          rw[h6] at HCF z1;have HP:Hid (Azt k x=x.ends.any (fun y=> !endOk k y || (!x.live && (y.kind != 0)))):=by show _=_;unfold Azt;rw[h6];rfl
          have HW1:=Lib.hid hw1;clear hcell hz hb hb1 hw1 hXB hMB hRE hx h6 e1 hel;cases hd:x.ends.any (fun y=> !endOk k y || (!x.live && (y.kind != 0))) with
          | true=>
            have HG:=Lib.hid (HBad.out (by rw[HP.out,hd]));rw[hd] at HCF;clear hd;go_wp2_with fail;refine HCF.out.mono ?_;rintro e w3 ⟨rfl,hb3⟩;have hf:=HB.out.trans ((HW1.out.trans (hb3.mono HW1.out.size)).mono (Nat.le_of_lt hlt0));go_wp2;go_ret;exact⟨Az8 HG.out.symm,hf⟩
          | false=>
            have HG:=Lib.hid (HGood.out (by rw[HP.out,hd]));rw[hd] at HCF;clear hd;go_wp2_with fail;refine HCF.out.mono ?_;rintro e w3 ⟨rfl,hb3⟩;have hf:=HW1.out.trans (hb3.mono HW1.out.size);go_wp2;go_roundw
            case rel=>((repeat apply Exists.intro);exact⟨⟨n+1,by omega,by go_num,hf,HG⟩,rfl⟩)
            case measure=>simp[intOf];omega
         ·have h6':((x.ends.length:Int) != 6)=true:=by rw[bne_iff_ne];omega
          have HG:=Lib.hid (HBad.out (by unfold Azt;rw[show (x.ends.length != 6)=true by rw[bne_iff_ne];exact h6];rfl));have hb1:=Az6 wr (.cells #[.bool x.live, .slice A1 x.ends.length c1] 52);have hf:=HB.out.trans ((hb.trans (hb1.mono hb.size)).mono (Nat.le_of_lt hlt0));clear hcell hz hb hb1 hx h6 e1;go_wp2;go_ret;exact⟨Az8 HG.out.symm,hf⟩
        ·obtain rfl:n=4:=by omega
         have HV4:Hid (Azm k=(if anyI (Azu k) k.pipes 0 then 9 else 0)):=by
          show _=_;rw[HV3.out,HE.out,List.drop_of_length_le (by omega)];rfl
         have c3:=(HX.out.below hb hlt0).cell 3;simp at c3;have HW:=Lib.hid hb;clear HE HV3 hb hlt hn;go_wp2;clear c3;go_loopw [137] (fun i wr=>Cnt 6 i fun n=>Below W0.heap.size W0 wr∧Hid (anyI (Azu k) k.pipes 0=anyI (Azu k) (k.pipes.drop n) n)) (fun i _=>6 - (intOf i).toNat)
         case atStart=>exact⟨0,Nat.zero_le _,rfl,HW.out,by show _=_;simp⟩
         case round=>
          clear HW;obtain⟨n,hn,rfl,hb,HE⟩:=hrel;by_cases hlt:n<6
          ·have hlt':n<k.pipes.length:=by omega
           obtain⟨b,o,e1,hbB,hcell⟩:=(HK.out.pipes.below hb) (by omega);have z0:=hcell n hlt';obtain⟨x,hx⟩:∃ x,x=k.pipes[n]:=⟨_,rfl⟩;have HD:=Lib.hid (Ezc (p:=Azu k) hlt');have hsz:=hS.pipes _ (List.getElem_mem hlt');rw[←hx] at z0 HD hsz;rw[e1];have hbs:b<wr.heap.size:=Nat.lt_of_lt_of_le hbB hb.size;have HBad:Hid (Azu k n x=true→Azm k=9):=fun g=>by rw[HV4.out,HE.out,HD.out,g];rfl
           have HGood:Hid (Azu k n x=false→anyI (Azu k) k.pipes 0=anyI (Azu k) (k.pipes.drop (n+1)) (n+1)):=fun g=>by rw[HE.out,HD.out,g];rfl
           have hXB:=HX.out.below hb hlt0;have c0:=hXB.c5;obtain⟨c0,c1,c2,c3,c4⟩:=c0;have hkw:=hXB.lt;unfold maxLen at hsz;have HH:=Lib.hid (Dzz (.slice a.a0 k.mods.length a.c0) (.slice a.a1 1024 a.c1) (.slice a.a2 8 a.c2) (.slice a.a3 6 a.c3) a.a4 a.c4 k.procs 2 (n:Int) wr ((HK.out.procs.below hb).more hb.size) (by rw[h4];unfold maxLen;omega));rw[h4,e1] at HH;rw[e1] at c3;have HW:=Lib.hid hb;have HF:=Lib.hid (HB.out.trans (hb.mono (Nat.le_of_lt hlt0)));clear hcell hb hx hXB HE HD hlt';by_cases h20:20<x.size
           ·have h20':(20:Int)<(x.size:Int):=by omega
            have HG:=Lib.hid (HBad.out (by unfold Azu;rw[decide_eq_true h20];rfl));clear h20;go_wp2;go_ret;exact⟨Az8 HG.out.symm,HF.out⟩
           ·have h20':(x.size:Int)≤20:=by omega
            have HP:Hid (Azu k n x=(!empS x && !hasE k.procs 2 n)):=by show _=_;unfold Azu;rw[decide_eq_false h20];rfl
            clear h20;cases hem:empS x with
            | true=>
              have hl0:x.toList=[]:=by rw[Bz5] at hem;simpa using hem
              have HG:=Lib.hid (HGood.out (by rw[HP.out,hem];rfl));clear hem;go_wp2;go_roundw
              case rel=>((repeat apply Exists.intro);exact⟨⟨n+1,by omega,by go_num,HW.out,HG⟩,rfl⟩)
              case measure=>simp[intOf];omega
            | false=>
              have hl0:x.toList≠ []:=by rw[Bz5] at hem;simpa using hem
              have hl1:(!x.toList.isEmpty)=true:=by simpa using hl0
              cases hh:hasE k.procs 2 (n:Int) with
              | true=>
                have HG:=Lib.hid (HGood.out (by rw[HP.out,hem,hh];rfl));rw[hh] at HH;clear hem hh;go_wp2_with fail;refine HH.out.mono ?_;rintro e w2 ⟨rfl,hb2⟩;have hf:=HW.out.trans (hb2.mono HW.out.size);go_wp2;go_roundw
                case rel=>((repeat apply Exists.intro);exact⟨⟨n+1,by omega,by go_num,hf,HG⟩,rfl⟩)
                case measure=>simp[intOf];omega
              | false=>
                have HG:=Lib.hid (HBad.out (by rw[HP.out,hem,hh];rfl));rw[hh] at HH;clear hem hh;go_wp2_with fail;refine HH.out.mono ?_;rintro e w2 ⟨rfl,hb2⟩;have hf:=HF.out.trans (hb2.mono HF.out.size);go_wp2;go_ret;exact⟨Az8 HG.out.symm,hf⟩
          ·obtain rfl:n=6:=by omega
           have HG:Hid (Azm k=0):=by
            show _=_;rw[HV4.out,HE.out,List.drop_of_length_le (by omega)];rfl
           have hf:=HB.out.trans (hb.mono (Nat.le_of_lt hlt0));clear HE hlt hn;go_wp2;go_ret;exact⟨Az8 HG.out.symm,hf⟩
theorem Lzj (k:Krn) (a:KA) (w:World) (hK:KrnAt w w.heap.size a k) (hS:k.small) (hC:a.caps k) (ht:Tab w):
  Calls Tryz.prog 13 #[.agg (a.cells k)] w fun e w'=>e= .returned (.int .i64 (Azm k))∧Below w.heap.size w w':=by
 by_cases h:8<k.mods.length∨k.mem.length≠1024∨k.nodes.length≠8∨k.pipes.length≠6∨k.procs.length≠4
 ·exact Lzk k a w h
 ·exact Lzl k a w hK hS hC ht (by omega) (by omega) (by omega) (by omega) (by omega)
end Go.Proofs.YtdjamdbamkhblacGreatDoor
