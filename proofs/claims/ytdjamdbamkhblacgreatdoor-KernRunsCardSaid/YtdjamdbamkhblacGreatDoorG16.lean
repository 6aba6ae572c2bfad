/- The walk of the kernel's read: what a reading end gives. Condition: the listed table, the run's contract (RunC). The walk of the kernel's write: refusals, and what a writing end of a pipe takes. Condition: the listed table. -/
import Derived.Test.YtdjamdbamkhblacGreatDoorG15
import Derived.StillTailTactics
set_option maxHeartbeats 4000000
set_option maxRecDepth 100000
namespace Go.Proofs.YtdjamdbamkhblacGreatDoor
open Go.RowKit
set_option linter.unusedVariables false
set_option linter.unusedSimpArgs false
attribute [local go_sem] After.cell
theorem PrcRows.get {w:World} {B:Nat}:∀ {l:List Prc} {es:List Value},PrcRows w B l es→∀ (p:Nat) (h:p<l.length) (h':p<es.length),w.ownsRow B 54 3 es[p] l[p].ends.length (Azg l[p].ends)
 | [],_,_,p,h,_=>absurd h (Nat.not_lt_zero _)
 | _::_,_::_,hh,0,_,_=>hh.1
 | _::_,_::_,hh,p+1,h,h'=>PrcRows.get hh.2 p (by simpa using h) (by simpa using h')
 | _::_,[],hh,_,_,_=>hh.elim
theorem Azz (s:ByteArray) (a b:Nat):s.extract a b=cutS s a b:=by
 apply ByteArray.ext;rw[ByteArray.data_extract];unfold cutS;apply Array.ext';simp[List.drop_take]
theorem Nz2 (s:ByteArray):cutS s 0 s.size=s:=by
 apply ByteArray.ext;apply Array.ext';have e:s.data.toList.length=s.size:=by simp
 show (List.drop 0 (List.take s.size s.data.toList))=_;rw[List.drop_zero, ←e,List.take_length]
theorem Hzl (s:ByteArray):cutS s s.size s.size=⟨#[]⟩:=by
 apply ByteArray.ext;apply Array.ext';have e:s.data.toList.length=s.size:=by simp
 show (List.drop s.size (List.take s.size s.data.toList))=_;rw[←e,List.take_length,List.drop_length]
theorem Izj {W:World} {s:Nat} {x:Int} (h:Blk W s 5 #[.int .u8 x]) (cap:Nat):(convert 112 9 (.slice (some ⟨s,0,none⟩) 1 cap)).run Tryz.prog W= .ok (.string (ba [u8 x.toNat])) W:=by
 have e:=run_convert_bytes_arg W 112 5 Tryz.underlying112 Tryz.underlying5 s 0 1 cap [x] rfl (fun i hi=>by
  rw[Nat.zero_add,h.cell];have:i=0:=by omega
  subst this;rfl) 9 Tryz.underlying9
 rw[e,Hzv];rfl
theorem byte_of (v:Nat):(⟨#[UInt8.ofNat v]⟩:ByteArray)=ba [u8 ((v:Int) % 256).toNat]:=by
 have e:((v:Int) % 256).toNat=v % 256:=by omega
 rw[e];show (⟨#[UInt8.ofNat v]⟩:ByteArray)=⟨#[u8 (v % 256)]⟩;have:UInt8.ofNat v=u8 (v % 256):=by
  apply UInt8.toNat_inj.1;simp[u8]
 rw[this]
section
variable {B g:Nat} {a:KA} {k:Krn} {ms:List (Value × Value)} {es:List Value}
theorem KS.opn {w:World} {p c be i:Nat} (h:KS B w g a k ms es) (hp:p<k.procs.length) (hp':p<es.length) (he:es[p]= .slice (some ⟨be,0,none⟩) k.procs[p].ends.length c) (hi:i<k.procs[p].ends.length):
  be<w.heap.size∧w.cell? ⟨be,i*3,none⟩=some (.int .i64 k.procs[p].ends[i].kind)∧w.cell? ⟨be,i*3+1,none⟩=some (.int .i64 k.procs[p].ends[i].node)∧w.cell? ⟨be,i*3+2,none⟩=some (.int .i64 k.procs[p].ends[i].pos):=by
 have ho:=h.cp.ends.get p hp hp';rw[he] at ho;obtain⟨b,hb,_,hlt⟩:=Azf ho (by omega);cases hb
 have hr:=Rd.of_own ho;obtain⟨b,o,hb,_,hc⟩:=hr.2 (by omega);cases hb
 obtain⟨e0,e1,e2⟩:=Dz9 k.procs[p].ends i hi;have c0:=hc _ _ e0;have c1:=hc _ _ e1;have c2:=hc _ _ e2;rw[Nat.zero_add] at c0 c1 c2;exact⟨hlt,c0,c1,c2⟩
def Ozn (B:Nat) (w:World) (g:Nat) (ms:List (Value × Value)) (es:List Value) (r:Krn × Ans) (e:Ending) (w':World):Prop:=
 e= .returned (.tuple #[.string r.2.data, .int .i64 r.2.code])∧Fr B w w'∧∃ a',KS B w' g a' r.1 ms es
theorem Pzq (HR:RunC 96) {p i be c:Nat} (many:Int) (w:World) (h:KS B w g a k ms es) (hk:KOk k) (ht:Tab w) (hp:p<k.procs.length) (hp':p<es.length) (he:es[p]= .slice (some ⟨be,0,none⟩) k.procs[p].ends.length c) (hi:i<k.procs[p].ends.length)
  (h0:k.procs[p].ends[i].kind≠0) (h3:k.procs[p].ends[i].kind≠3):
  Calls Tryz.prog 55 #[.agg #[.pointer (some ⟨g,0,none⟩)], .pointer (some ⟨be,i*3,none⟩), .int .i64 many] w (Ozn B w g ms es (Bzu k p i many)):=by
 have HRR:=Lib.hid HR;clear HR;have HO:Hid (∀ W:World,Below w.heap.size w W→be<W.heap.size∧W.cell? ⟨be,i*3,none⟩=some (.int .i64 k.procs[p].ends[i].kind)∧W.cell? ⟨be,i*3+1,none⟩=some (.int .i64 k.procs[p].ends[i].node)∧W.cell? ⟨be,i*3+2,none⟩=some (.int .i64 k.procs[p].ends[i].pos)):=fun W hW=>(h.below hW).opn hp hp' he hi
 have HEO:Hid (endOk k k.procs[p].ends[i]=true):=by
  have:=Cz6 hk (p:=p) (i:=i) (by have:=hk.l4;omega);rw[Az3 hp,Az3 hi] at this;exact this
 have HUN:Hid ((k.procs.getD p default).ends.getD i default=k.procs[p].ends[i]):=by
  show _=_;rw[Az3 hp,Az3 hi]
 obtain⟨x,hx⟩:∃ x,x=k.procs[p].ends[i]:=⟨_,rfl⟩;rw[←hx] at HO HEO HUN h0 h3;have H0:=Lib.hid h;have HK:=Lib.hid hk;have HT:=Lib.hid ht;have HB:=Lib.hid (Az6 w (.cells #[.pointer (some ⟨g,0,none⟩)] 59));have HX:=Lib.hid (Blk.new w 59 #[.pointer (some ⟨g,0,none⟩)]);have HE:=Lib.hid (show p<k.procs.length∧x=k.procs[p].ends[i] from ⟨hp,hx⟩);clear h hk ht hx;by_cases hm:many<1∨100<many
 ·have HV2:Hid (Bzu k p i many=(k,ansE 2)):=by
   show _=_;unfold Bzu;simp only;rw[if_pos hm]
  have HF:=Lib.hid (H0.out.below HB.out);have HBF:=Lib.hid (Fr.low HB.out (Nat.le_of_lt H0.out.lt));by_cases hm1:many<1
  ·have d1:decide (many<1)=true:=by simpa using hm1
   clear hm hm1;go_enter Tryz.func55,Tryz.ntmps55;go_wp2_with fail;go_ret2;rw[HV2.out];exact⟨rfl,HBF.out,_,HF.out⟩
  ·have d1:decide (many<1)=false:=by simpa using hm1
   have d2:decide (100<many)=true:=by simp;omega
   clear hm hm1;go_enter Tryz.func55,Tryz.ntmps55;go_wp2_with fail;go_ret2;rw[HV2.out];exact⟨rfl,HBF.out,_,HF.out⟩
 ·have d1:decide (many<1)=false:=by simp;omega
  have d2:decide (100<many)=false:=by simp;omega
  have HM:=Lib.hid hm;clear hm;obtain⟨z0,z1,z2,z3⟩:=HO.out w (Below.refl _ _);obtain⟨c0,c1,c2,c3,c4⟩:=H0.out.c5;have gl:=H0.out.blk.lt;by_cases hk2:x.kind=2
  ·have q2:(x.kind == 2)=true:=by rw[hk2];rfl
   obtain⟨n0,n6,_⟩:=Fza HEO.out (.inl hk2);have hm:=HM.out;obtain⟨pi,hpi⟩:∃ pi:Nat,x.node=(pi:Int):=⟨x.node.toNat,by omega⟩;have hp6:pi<6:=by omega
   have l3:=HK.out.l3;have hpl:pi<k.pipes.length:=by omega
   obtain⟨b3,ha3,_,hb3⟩:=Azf H0.out.cp.pipes (by omega);have hs:w.cell? ⟨b3,pi,none⟩=some (.string k.pipes[pi]):=by
    obtain⟨b,o,hb,_,hc⟩:=H0.out.krn.pipes (by omega);rw[ha3] at hb;cases hb
    have:=hc pi hpl
    rwa [Nat.zero_add] at this
   have HRK:Hid (Bzu k p i many=if empS k.pipes[pi] then (k,ansE (if hasE k.procs 3 x.node then 13 else 12)) else
     ({ k with pipes:=k.pipes.set pi (cutS k.pipes[pi] (min many.toNat k.pipes[pi].size) k.pipes[pi].size) },⟨0,(min many.toNat k.pipes[pi].size:Nat),cutS k.pipes[pi] 0 (min many.toNat k.pipes[pi].size)⟩)):=by
    show _=_;unfold Bzu;simp only;rw[HUN.out,if_neg hm,if_pos hk2];have:k.pipes.getD x.node.toNat noS=k.pipes[pi]:=by
     rw[hpi,Int.toNat_natCast,List.getD_eq_getElem?_getD,List.getElem?_eq_getElem hpl];rfl
    rw[this,hpi,Int.toNat_natCast]
   have HPI:=Lib.hid (show x.node=(pi:Int)∧pi<k.pipes.length from ⟨hpi,hpl⟩);obtain⟨s,hss⟩:∃ s,s=k.pipes[pi]:=⟨_,rfl⟩;rw[←hss] at hs HRK;rw[hpi] at z2 HRK;have HL3:=Lib.hid l3;have HA3:=Lib.hid ha3;rw[l3,ha3] at c3;clear hk2 hm hpi hpl l3 ha3 hss n0 n6;cases hem:empS s with
   | true=>
     have hl0:s.toList=[]:=by rw[Bz5] at hem;simpa using hem
     have hl1:s.toList.isEmpty=true:=by rw[hl0];rfl
     rw[hem,if_pos rfl] at HRK;clear hem;go_enter Tryz.func55,Tryz.ntmps55;go_wp2_with fail;go_quiet (fail);have hWq:=Below.drewN' HB.out nq;have HH:Hid (∀ X:After ((w.alloc (.cells #[.pointer (some ⟨g,0,none⟩)] 59)).drewN nq),Calls Tryz.prog 38 #[.agg #[.slice a.a0 k.mods.length a.c0, .slice a.a1 k.mem.length a.c1, .slice a.a2 k.nodes.length a.c2, .slice (some ⟨b3,0,none⟩) 6 a.c3, .slice a.a4 k.procs.length a.c4], .int .i64 3, .int .i64 (pi:Int)] X.w' fun e w'=>e= .returned (.bool (hasE k.procs 3 (pi:Int)))∧Below X.w'.heap.size X.w' w'):=
      fun X=>Dzz _ _ _ _ _ _ _ _ _ _ (H0.out.below (hWq.trans (X.h.mono hWq.size))).krn.procs (by rw[HK.out.l4];unfold maxLen;omega)
     have HWQ:=Lib.hid hWq;clear hWq;cases hh:hasE k.procs 3 (pi:Int) with
     | true=>
       rw[hh,if_pos rfl] at HRK;simp only[hh] at HH;clear hh;go_wp2;refine Azb (by kernel_rfl) (by kernel_rfl) ?_
       repeat (go_big_quiet_step ((rename_i X;exact Calls.calm (HH.out X))))
       refine wpQuiet_nil ?_;rintro _ ⟨⟨w1,hb1⟩,rfl⟩;have hf:=HWQ.out.trans (hb1.mono HWQ.out.size);go_wp2;go_ret2;rw[HRK.out];exact⟨rfl,Fr.low hf (Nat.le_of_lt H0.out.lt),_,H0.out.below hf⟩
     | false=>
       rw[hh,if_neg (by decide)] at HRK;simp only[hh] at HH;clear hh;go_wp2;refine Azb (by kernel_rfl) (by kernel_rfl) ?_
       repeat (go_big_quiet_step ((rename_i X;exact Calls.calm (HH.out X))))
       refine wpQuiet_nil ?_;rintro _ ⟨⟨w1,hb1⟩,rfl⟩;have hf:=HWQ.out.trans (hb1.mono HWQ.out.size);go_wp2;go_ret2;rw[HRK.out];exact⟨rfl,Fr.low hf (Nat.le_of_lt H0.out.lt),_,H0.out.below hf⟩
   | false=>
     have hl0:s.toList≠ []:=by rw[Bz5] at hem;simpa using hem
     have hl1:s.toList.isEmpty=false:=by rw[List.isEmpty_eq_false_iff];exact hl0
     rw[hem,if_neg (by decide)] at HRK;clear hem;obtain⟨mn,hmn⟩:∃ mn:Nat,many=(mn:Int):=⟨many.toNat,by have:=HM.out;omega⟩;rw[hmn,Int.toNat_natCast] at HRK;have hm1:=HM.out;by_cases hle:mn≤s.size
     ·have hle':many≤(s.size:Int):=by omega
      rw[show min mn s.size=mn by omega] at HRK;subst hmn;go_enter Tryz.func55,Tryz.ntmps55;go_wp2_with fail;go_quiet (fail);have hWq:=Below.drewN' HB.out nq;have hXq:=HX.out.drewN nq;clear z0 z1 z2 z3 c0 c1 c2 c3 c4;generalize (w.alloc (.cells #[.pointer (some ⟨g,0,none⟩)] 59)).drewN nq=W2 at*;obtain⟨z0,z1,z2,z3⟩:=HO.out W2 hWq;rw[HPI.out.1] at z2;have hK2:=H0.out.below hWq;obtain⟨c0,c1,c2,c3,c4⟩:=hK2.c5;rw[HL3.out,HA3.out] at c3;have g2:=hK2.blk.lt;obtain⟨x0, -, -, -,xl⟩:=hXq.a2;simp at x0;have y0:=(hWq.cell (p:=⟨b3,pi,none⟩) hb3).trans hs;have hb32:b3<W2.heap.size:=Nat.lt_of_lt_of_le hb3 hWq.size;have f0:W2.frozen? ⟨b3,pi,none⟩=false:=by
       have:=hK2.cp.pipes;rw[HA3.out] at this;exact this.frozenAt pi
      have hp6:pi<6:=by have:=HPI.out.2;have:=HL3.out;omega
      have hp6':((pi:Nat):Int)<6:=by omega
      have HFIN:=Lib.hid (hK2.pipeCell (i:=pi) HA3.out (cutS s mn s.size));have HB3:=Lib.hid (Fr.low hWq (Nat.le_of_lt H0.out.lt));clear hs hb3 gl hK2 hXq hWq;go_wp2;go_still_tail 12,(by kernel_rfl);change wpList _ _ _ _ _ W2.drew;go_wp2;simp only[Azz];go_ret2;rw[HRK.out];exact⟨rfl,Fr.drewN (HB3.out.trans HFIN.out.2) 1,_,HFIN.out.1.below (Below.drewN' (Below.refl _ _) 1)⟩
     ·have hle':¬ ((mn:Nat):Int)≤(s.size:Int):=by omega
      rw[show min mn s.size=s.size by omega] at HRK;subst hmn;go_enter Tryz.func55,Tryz.ntmps55;go_wp2_with fail;go_quiet (fail);have hWq:=Below.drewN' HB.out nq;have hXq:=HX.out.drewN nq;clear z0 z1 z2 z3 c0 c1 c2 c3 c4;generalize (w.alloc (.cells #[.pointer (some ⟨g,0,none⟩)] 59)).drewN nq=W2 at*;obtain⟨z0,z1,z2,z3⟩:=HO.out W2 hWq;rw[HPI.out.1] at z2;have hK2:=H0.out.below hWq;obtain⟨c0,c1,c2,c3,c4⟩:=hK2.c5;rw[HL3.out,HA3.out] at c3;have g2:=hK2.blk.lt;obtain⟨x0, -, -, -,xl⟩:=hXq.a2;simp at x0;have y0:=(hWq.cell (p:=⟨b3,pi,none⟩) hb3).trans hs;have hb32:b3<W2.heap.size:=Nat.lt_of_lt_of_le hb3 hWq.size;have f0:W2.frozen? ⟨b3,pi,none⟩=false:=by
       have:=hK2.cp.pipes;rw[HA3.out] at this;exact this.frozenAt pi
      have hp6:pi<6:=by have:=HPI.out.2;have:=HL3.out;omega
      have hp6':((pi:Nat):Int)<6:=by omega
      rw[Nz2,Hzl] at HRK;have HFIN:=Lib.hid (hK2.pipeCell (i:=pi) HA3.out (cutS s s.size s.size));have HB3:=Lib.hid (Fr.low hWq (Nat.le_of_lt H0.out.lt));rw[Hzl] at HFIN;clear hs hb3 gl hK2 hXq hWq;go_wp2;go_still_tail 12,(by kernel_rfl);change wpList _ _ _ _ _ W2.drew;go_wp2;go_ret2;rw[HRK.out];exact⟨rfl,Fr.drewN (HB3.out.trans HFIN.out.2) 1,_,HFIN.out.1.below (Below.drewN' (Below.refl _ _) 1)⟩
  ·have q2:(x.kind == 2)=false:=by rw[beq_eq_false_iff_ne];exact hk2
   obtain⟨_,n0,n8,nk,p0,p1⟩:=Dzd HEO.out h0 hk2 h3;have hm:=HM.out;obtain⟨nd,hnd⟩:∃ nd:Nat,x.node=(nd:Int):=⟨x.node.toNat,by omega⟩;have l2:=HK.out.l2;have hnl:nd<k.nodes.length:=by omega
   have hgd:k.nodes.getD x.node.toNat default=k.nodes[nd]:=by rw[hnd,Int.toNat_natCast,Az3 hnl]
   have hno:Bz6 k.mods.length k.nodes[nd]=true:=by
    have:=Ezl HK.out (i:=nd) (by omega)
    rwa [Az3 hnl] at this
   rw[hgd] at nk;have HRK:Hid (Bzu k p i many=if k.nodes[nd].kind=2 then (match askK k k.nodes[nd].unit.toNat 256 with
    | none=>(k,ansE 14)
    | some (v,k')=>(k',⟨0,1,⟨#[UInt8.ofNat v]⟩⟩))
    else if k.nodes[nd].data.size≤x.pos.toNat then (k,ansE 12)
    else (setEnd k p i { x with pos:=x.pos+(min many.toNat (k.nodes[nd].data.size - x.pos.toNat):Nat) },⟨0,(min many.toNat (k.nodes[nd].data.size - x.pos.toNat):Nat),cutS k.nodes[nd].data x.pos.toNat (x.pos.toNat+min many.toNat (k.nodes[nd].data.size - x.pos.toNat))⟩)):=by
    show _=_;unfold Bzu;simp only;rw[HUN.out,if_neg hm,if_neg hk2,hgd];rfl
   obtain⟨y,hy⟩:∃ y,y=k.nodes[nd]:=⟨_,rfl⟩;have HYY:=Lib.hid hy;have HND:=Lib.hid hnd;rw[←hy] at HRK hno nk;have hKb:=H0.out.below HB.out;obtain⟨b2,ha2,_,hb2⟩:=Azf hKb.cp.nodes (by omega);have e2:=hKb.c5.2.2.1;rw[ha2] at e2;obtain⟨y0,y1,y2,y3⟩:=HO.out _ HB.out;rw[hnd] at y2;have HNO:=Lib.hid hno;have HZ:=Lib.hid (And.intro y0 y2);have HE2:=Lib.hid e2;have hrd:=hKb.krn.nodes (by omega);obtain⟨bb,oo,hbb,_,hcc⟩:=hrd;rw[ha2] at hbb;cases hbb
   have h4:=hcc nd hnl;rw[←hy,Nat.zero_add] at h4;have HN4:=Lib.hid h4;have HLT:=Lib.hid (show g<(w.alloc (.cells #[.pointer (some ⟨g,0,none⟩)] 59)).heap.size∧b2<(w.alloc (.cells #[.pointer (some ⟨g,0,none⟩)] 59)).heap.size∧nd<k.nodes.length from ⟨hKb.blk.lt,hb2,hnl⟩);clear hk2 hm hnd l2 hgd hKb ha2 e2 y0 y1 y2 y3 hcc h4 hb2 hno hy;go_enter Tryz.func55,Tryz.ntmps55;go_wp2_with fail;refine Rzu (w.alloc (.cells #[.pointer (some ⟨g,0,none⟩)] 59)) w.heap.size g b2 a.c2 k.nodes.length be i nd y (w.alloc (.cells #[.pointer (some ⟨g,0,none⟩)] 59)) _ (Bz4 _) HX.out.lt (HX.out.cell 0) HLT.out.1 HE2.out HZ.out.1 HZ.out.2 HLT.out.2.1 HN4.out.1 HN4.out.2.1 HN4.out.2.2.1 HN4.out.2.2.2 HLT.out.2.2 ?_;intro listed W y9 y68 y69 y70 y71 y72 y73 y74 y75 y76 y77 y78 hall hJ;obtain⟨s,rfl,hge,hbl⟩:=hJ.f12 (hall 12 (by decide));have hw:=hJ.w;clear hJ c0 c1 c2 c3 c4 z0 z1 z2 z3;have hbw:=HB.out.trans (hw.mono HB.out.size);have hK2:=H0.out.below hbw;obtain⟨m0,m1,m2,m3, -, -, -, -,sl⟩:=hbl.a4;simp at m0 m1 m2 m3;have hXW:=HX.out.below hw HX.out.lt;obtain⟨x0, -, -, -,xl⟩:=hXW.a2;simp at x0;by_cases hd:y.kind=2
   ·have hd2:(y.kind == 2)=true:=by rw[hd];rfl
    obtain⟨u0,u1,_⟩:=Dzs HNO.out hd;obtain⟨u,hu⟩:∃ u:Nat,y.unit=(u:Int):=⟨y.unit.toNat,by omega⟩;rw[if_pos hd,hu,Int.toNat_natCast] at HRK;rw[hu] at m3;have HASK:=Lib.hid (Kzh HRR.out u 256 W hK2 HK.out (HT.out.below hbw) (by omega) (by omega));have HBW:=Lib.hid hbw;clear hbw hK2 hw hd u0 u1;go_wp2_with fail;refine HASK.out.mono ?_;rintro e w3 ⟨hb3,_,(⟨hn,rfl,hk3⟩|⟨v,k',a',hs,rfl,hk3,_⟩)⟩
    ·rw[hn] at HRK
     clear hn;go_wp2;go_ret2;rw[HRK.out];exact⟨rfl,(Fr.low HBW.out (Nat.le_of_lt H0.out.lt)).trans hb3,_,hk3⟩
    ·rw[hs] at HRK
     clear hs;have HR2:Hid (Bzu k p i many=(k',⟨0,1,ba [u8 ((v:Int) % 256).toNat]⟩)):=by
      show _=_;rw[←byte_of];exact HRK.out
     clear HRK;have kc:=Izj (Blk.new w3 5 #[.int .u8 ((v:Int) % 256)]) 1;have HBA:=Lib.hid ((Below.refl w3.heap.size w3).alloc (Nat.le_refl _) (.cells #[.int .u8 ((v:Int) % 256)] 5));have HK3:=Lib.hid hk3;have HB3:=Lib.hid hb3;clear hk3 hb3;go_wp2;go_ret2;rw[HR2.out];exact⟨rfl,((Fr.low HBW.out (Nat.le_of_lt H0.out.lt)).trans HB3.out).trans (Fr.low HBA.out (Nat.le_of_lt HK3.out.lt)),_,HK3.out.below HBA.out⟩
   ·have hd2:(y.kind == 2)=false:=by rw[beq_eq_false_iff_ne];exact hd
    rw[if_neg hd] at HRK;obtain⟨z0,z1,z2,z3⟩:=HO.out W hbw;by_cases hle:y.data.size≤x.pos.toNat
    ·rw[if_pos hle] at HRK
     have q1:decide ((y.data.size:Int)≤x.pos)=true:=by simp;omega
     have HBW:=Lib.hid hbw;clear hbw hK2 hw hd hle;go_wp2;go_quiet (fail);go_wp2;go_ret2;rw[HRK.out];have hf:=HBW.out.trans (Below.drewN' (Below.refl _ W) nq |>.mono HBW.out.size);exact⟨rfl,Fr.low hf (Nat.le_of_lt H0.out.lt),_,H0.out.below hf⟩
    ·rw[if_neg hle] at HRK
     have q1:decide ((y.data.size:Int)≤x.pos)=false:=by simp;omega
     obtain⟨q,hq⟩:∃ q:Nat,x.pos=(q:Int):=⟨x.pos.toNat,by omega⟩;obtain⟨mn,hmn⟩:∃ mn:Nat,many=(mn:Int):=⟨many.toNat,by have:=HM.out;omega⟩;have hm:=HM.out;obtain⟨_,_,hds⟩:=Czb HNO.out nk hd;rw[hq,hmn,Int.toNat_natCast,Int.toNat_natCast] at HRK;rw[hq] at z3 q1;rw[hq,Int.toNat_natCast] at hle;have hmn1:mn≤100:=by omega
     have HXP:=Lib.hid hq;have HMP:=Lib.hid (show 1≤mn by omega);subst hmn;have HBW:=Lib.hid hbw;have HHL:=Lib.hid hle;obtain⟨sz,hsz⟩:∃ sz,sz=y.data.size:=⟨_,rfl⟩;have HSZ:=Lib.hid hsz;clear hbw hK2 hw hd hle hq hm d1 d2 p1 hsz;go_wp2;go_quiet (fail);have hWq:=Below.drewN' (Below.refl W.heap.size W) nq;have hBq:=HBW.out.trans (hWq.mono HBW.out.size);have hb2:=hbl.drewN nq;have hX2:=hXW.drewN nq;clear m0 m1 m2 m3 sl x0 xl z0 z1 z2 z3;generalize W.drewN nq=W2 at*;obtain⟨z0,z1,z2,z3⟩:=HO.out W2 hBq;rw[HXP.out] at z3;have m2:=hb2.cell 2;have sl:=hb2.lt;simp at m2;have HK2:=Lib.hid (H0.out.below hBq);have HB2:=Lib.hid hBq;clear hBq hb2 hX2 hbl hXW hge hWq;have hq100:q≤100:=by have:=HHL.out;omega
     have hq1:0≤(q:Int)+(mn:Int):=by omega
     have hw1:IntKind.i64.wrap ((q:Int)+(mn:Int))=(q:Int)+(mn:Int):=Go.IntWalk.i64_in _ (by omega);by_cases hc:y.data.size≤q+mn
     ·have hc1:(y.data.size:Int)≤(q:Int)+(mn:Int):=by omega
      have hc2:(q:Int)≤(y.data.size:Int):=by have:=HHL.out;omega
      have HC:=Lib.hid hc;clear hc;go_wp2;go_quiet (fail);simp only[Azz];clear hw1;obtain⟨d,hd⟩:∃ d,d=cutS y.data q y.data.size:=⟨_,rfl⟩;rw[←hd];have hdl:d.size=y.data.size - q:=by rw[hd,Bz1 _ _ _ (Nat.le_refl _)]
      have hd1:min mn (y.data.size - q)=d.size:=by have:=HC.out;omega
      have hd2:cutS y.data q (q+d.size)=d:=by
       rw[hdl,show q+(y.data.size - q)=y.data.size by omega,hd]
      have hdb:(d.size:Int)≤100:=by omega
      have hqb:(q:Int)≤100:=by omega
      have HR2:Hid (Bzu k p i (mn:Int)=(setEnd k p i { k.procs[p].ends[i] with pos:=(q:Int)+(d.size:Int) },⟨0,(d.size:Int),d⟩)):=by
       show _=_;rw[HRK.out,hd1,hd2,HE.out.2]
      clear HRK hd1 hd2 hdl hd;have hWn:=Below.drewN' (Below.refl W2.heap.size W2) nq;have hB3:=HB2.out.trans (hWn.mono HB2.out.size);clear m2 z0 z1 z2 z3 sl;generalize W2.drewN nq=W3 at*;obtain⟨z0,z1,z2,z3⟩:=HO.out W3 hB3;rw[HXP.out] at z3;have hK3:=H0.out.below hB3;have hfz:=(hK3.cp.ends.at_ p hp hp');rw[he] at hfz;have f2:=hfz.frozenAt (i*3+2);have HFIN:=Lib.hid (hK3.endPos hp hp' he hi ((q:Int)+(d.size:Int)));have HB3:=Lib.hid (Fr.low hB3 (Nat.le_of_lt H0.out.lt));clear hfz hK3 hB3 hWn;go_wp2;go_ret2;rw[HR2.out];exact⟨rfl,HB3.out.trans HFIN.out.2,_,HFIN.out.1⟩
     ·have hc1:¬ (y.data.size:Int)≤(q:Int)+(mn:Int):=by omega
      have hc2:(q:Int)≤(q:Int)+(mn:Int):=by omega
      have hc3:(q:Int)+(mn:Int)≤(y.data.size:Int):=by omega
      have HC:=Lib.hid hc;clear hc;go_wp2;go_quiet (fail);simp only[Azz];clear hw1;obtain⟨d,hd⟩:∃ d,d=cutS y.data q (q+mn):=⟨_,rfl⟩;rw[←hd];have hdl:d.size=mn:=by rw[hd,Bz1 _ _ _ (by have:=HC.out;omega)];omega
      have hd1:min mn (y.data.size - q)=d.size:=by have:=HC.out;omega
      have hd2:cutS y.data q (q+d.size)=d:=by
       rw[hdl,hd]
      have hdb:(d.size:Int)≤100:=by omega
      have hqb:(q:Int)≤100:=by omega
      have HR2:Hid (Bzu k p i (mn:Int)=(setEnd k p i { k.procs[p].ends[i] with pos:=(q:Int)+(d.size:Int) },⟨0,(d.size:Int),d⟩)):=by
       show _=_;rw[HRK.out,hd1,hd2,HE.out.2]
      clear HRK hd1 hd2 hdl hd;have hWn:=Below.drewN' (Below.refl W2.heap.size W2) nq;have hB3:=HB2.out.trans (hWn.mono HB2.out.size);clear m2 z0 z1 z2 z3 sl;generalize W2.drewN nq=W3 at*;obtain⟨z0,z1,z2,z3⟩:=HO.out W3 hB3;rw[HXP.out] at z3;have hK3:=H0.out.below hB3;have hfz:=(hK3.cp.ends.at_ p hp hp');rw[he] at hfz;have f2:=hfz.frozenAt (i*3+2);have HFIN:=Lib.hid (hK3.endPos hp hp' he hi ((q:Int)+(d.size:Int)));have HB3:=Lib.hid (Fr.low hB3 (Nat.le_of_lt H0.out.lt));clear hfz hK3 hB3 hWn;go_wp2;go_ret2;rw[HR2.out];exact⟨rfl,HB3.out.trans HFIN.out.2,_,HFIN.out.1⟩
end
end Go.Proofs.YtdjamdbamkhblacGreatDoor
namespace Go.Proofs.YtdjamdbamkhblacGreatDoor
open Go.RowKit
set_option linter.unusedVariables false
set_option linter.unusedSimpArgs false
attribute [local go_sem] After.cell
theorem Hzi (t s:ByteArray) (m:Nat):t++cutS s 0 m=⟨(t.data.toList++s.data.toList.take m).toArray⟩:=by
 apply ByteArray.ext;rw[ByteArray.data_append];apply Array.ext';simp[cutS]
theorem Iz3 (s:ByteArray) (m:Nat) (h:s.size≤m):cutS s 0 m=s:=by
 apply ByteArray.ext;apply Array.ext';have e:s.data.toList.length=s.size:=by simp
 show (List.drop 0 (List.take m s.data.toList))=_;rw[List.drop_zero,List.take_of_length_le (by omega)]
section
variable {B g:Nat} {a:KA} {k:Krn} {ms:List (Value × Value)} {es:List Value}
def WritePost (B:Nat) (w:World) (g:Nat) (ms:List (Value × Value)) (es:List Value) (r:Krn × Ans) (e:Ending) (w':World):Prop:=
 e= .returned (.tuple #[.int .i64 r.2.n, .int .i64 r.2.code])∧Fr B w w'∧∃ a',KS B w' g a' r.1 ms es
theorem Jze {p i be c:Nat} (s:ByteArray) (w:World) (h:KS B w g a k ms es) (hs:s.size≤maxLen) (ho:empS s=true∨100<s.size):
  Calls Tryz.prog 56 #[.agg #[.pointer (some ⟨g,0,none⟩)], .pointer (some ⟨be,i*3,none⟩), .string s] w (WritePost B w g ms es (Azh k p i s)):=by
 have HV:Hid (Azh k p i s=(k,ansE 2)):=by
  show _=_;unfold Azh;simp only;rw[if_pos (by rcases ho with h|h;exact .inl h;exact .inr h)]
 have HB:=Lib.hid (Az6 w (.cells #[.pointer (some ⟨g,0,none⟩)] 59));have HF:=Lib.hid (h.below HB.out);have HBF:=Lib.hid (Fr.low HB.out (Nat.le_of_lt h.lt));unfold maxLen at hs;clear h;cases hem:empS s with
 | true=>
   have hl0:s.toList=[]:=by rw[Bz5] at hem;simpa using hem
   have hl1:s.toList.isEmpty=true:=by rw[hl0];rfl
   clear hem ho;go_enter Tryz.func56,Tryz.ntmps56;go_wp2_with fail;go_ret2;rw[HV.out];exact⟨rfl,HBF.out,_,HF.out⟩
 | false=>
   have h100:100<s.size:=by
    rcases ho with h|h
    ·rw[hem] at h;cases h
    ·exact h
   have hl0:s.toList≠ []:=by rw[Bz5] at hem;simpa using hem
   have hl1:s.toList.isEmpty=false:=by rw[List.isEmpty_eq_false_iff];exact hl0
   have q1:decide ((100:Int)<(s.size:Int))=true:=by simp;omega
   have q2:(100:Int)<(s.size:Int):=by omega
   clear hem ho h100;go_enter Tryz.func56,Tryz.ntmps56;go_wp2_with fail;go_ret2;rw[HV.out];exact⟨rfl,HBF.out,_,HF.out⟩
theorem Mzi {p i be c:Nat} (s:ByteArray) (w:World) (h:KS B w g a k ms es) (hk:KOk k) (hp:p<k.procs.length) (hp':p<es.length) (he:es[p]= .slice (some ⟨be,0,none⟩) k.procs[p].ends.length c) (hi:i<k.procs[p].ends.length)
  (h3:k.procs[p].ends[i].kind=3) (hem:empS s=false) (h100:s.size≤100):
  Calls Tryz.prog 56 #[.agg #[.pointer (some ⟨g,0,none⟩)], .pointer (some ⟨be,i*3,none⟩), .string s] w (WritePost B w g ms es (Azh k p i s)):=by
 have HO:Hid (∀ W:World,Below w.heap.size w W→be<W.heap.size∧W.cell? ⟨be,i*3,none⟩=some (.int .i64 k.procs[p].ends[i].kind)∧W.cell? ⟨be,i*3+1,none⟩=some (.int .i64 k.procs[p].ends[i].node)∧W.cell? ⟨be,i*3+2,none⟩=some (.int .i64 k.procs[p].ends[i].pos)):=fun W hW=>(h.below hW).opn hp hp' he hi
 have HEO:endOk k k.procs[p].ends[i]=true:=by
  have:=Cz6 hk (p:=p) (i:=i) (by have:=hk.l4;omega);rw[Az3 hp,Az3 hi] at this;exact this
 have HUN:(k.procs.getD p default).ends.getD i default=k.procs[p].ends[i]:=by
  rw[Az3 hp,Az3 hi]
 obtain⟨x,hx⟩:∃ x,x=k.procs[p].ends[i]:=⟨_,rfl⟩;rw[←hx] at HO HEO HUN h3;obtain⟨no0,no6,_⟩:=Fza HEO (.inr h3);obtain⟨pi,hpi⟩:∃ pi:Nat,x.node=(pi:Int):=⟨x.node.toNat,by omega⟩;have l3:=hk.l3;have hpl:pi<k.pipes.length:=by omega
 obtain⟨t,htt⟩:∃ t,t=k.pipes[pi]:=⟨_,rfl⟩;have htl:t.size≤20:=by
  have:=hk.pipes pi hpl;rw[←htt] at this;unfold Azu at this;simp at this;omega
 have HRK:Hid (Azh k p i s=if hasE k.procs 2 (pi:Int)=false then (k,ansE 12) else if t.size=20 then (k,ansE 13) else
   ({ k with pipes:=k.pipes.set pi ⟨(t.data.toList++s.data.toList.take (min (20 - t.size) s.size)).toArray⟩ },ansN (min (20 - t.size) s.size))):=by
  show _=_;unfold Azh;simp only;rw[HUN,if_neg (fun h=>by
   rcases h with h|h
   ·rw[hem] at h;cases h
   ·omega),if_pos h3]
  have:k.pipes.getD x.node.toNat noS=t:=by
   rw[hpi,Int.toNat_natCast,List.getD_eq_getElem?_getD,List.getElem?_eq_getElem hpl,htt];rfl
  rw[this,hpi,Int.toNat_natCast]
 have HPI:=Lib.hid (show x.node=(pi:Int)∧x.kind=3 from ⟨hpi,h3⟩);have hl0:s.toList≠ []:=by rw[Bz5] at hem;simpa using hem
 have hl1:s.toList.isEmpty=false:=by rw[List.isEmpty_eq_false_iff];exact hl0
 have hs0:1≤s.size:=by
  have h1:(s.size == 0)=false:=hem;have:=beq_eq_false_iff_ne.1 h1;omega
 have q1:decide ((100:Int)<(s.size:Int))=false:=by simp;omega
 have q2:¬ (100:Int)<(s.size:Int):=by omega
 have HB:=Lib.hid (Az6 w (.cells #[.pointer (some ⟨g,0,none⟩)] 59));have HX:=Lib.hid (Blk.new w 59 #[.pointer (some ⟨g,0,none⟩)]);have H0:=Lib.hid h;have HK:=Lib.hid hk;have HL3:=Lib.hid l3;have HTT:=Lib.hid (And.intro htt hpl);have pi6:(pi:Int)<6:=by omega
 obtain⟨b3,ha3,_,hb3⟩:=Azf h.cp.pipes (by omega);have HA3:=Lib.hid ha3;have HCELL:Hid (∀ W:World,Below w.heap.size w W→W.cell? ⟨b3,pi,none⟩=some (.string t)∧b3<W.heap.size∧W.frozen? ⟨b3,pi,none⟩=false):=fun W hW=>by
  have hK:=h.below hW;obtain⟨b,o,hb,hlt,hc⟩:=hK.krn.pipes (by omega);rw[ha3] at hb;cases hb
  have e:=hc pi hpl;rw[Nat.zero_add, ←htt] at e;have hf:=hK.cp.pipes;rw[ha3] at hf;exact⟨e,hlt,hf.frozenAt pi⟩
 clear h hk hx h3 hpi l3 htt ha3 hb3 hem HEO HUN;have hW0:=HB.out;obtain⟨z0,z1,z2,z3⟩:=HO.out _ hW0;rw[HPI.out.1] at z2;rw[HPI.out.2] at z1;obtain⟨y0,y1,y2⟩:=HCELL.out _ hW0;have hK1:=H0.out.below hW0;obtain⟨c0,c1,c2,c3,c4⟩:=hK1.c5;rw[HL3.out,HA3.out] at c3;have gl:=hK1.blk.lt;have xl:=HX.out.lt;clear hW0 hK1;go_enter Tryz.func56,Tryz.ntmps56;go_upto_region 4 with fail
 generalize w.alloc (.cells #[.pointer (some ⟨g,0,none⟩)] 59)=W0 at*;have x0:=HX.out.cell 0;simp at x0;go_quiet (fail);have hWq:=Below.drewN' (Below.refl W0.heap.size W0) nq;have HB1:=Lib.hid (HB.out.trans (hWq.mono HB.out.size));have HX1:=Lib.hid (HX.out.drewN nq);have HK1:=Lib.hid (H0.out.below HB1.out);clear hWq z0 z1 z2 z3 y0 y1 y2 c0 c1 c2 c3 c4 gl x0 xl;generalize W0.drewN nq=W1 at*;obtain⟨z0,z1,z2,z3⟩:=HO.out W1 HB1.out;rw[HPI.out.1] at z2;rw[HPI.out.2] at z1;obtain⟨y0,y1,y2⟩:=HCELL.out W1 HB1.out;obtain⟨c0,c1,c2,c3,c4⟩:=HK1.out.c5;rw[HL3.out,HA3.out] at c3;have gl:=HK1.out.blk.lt;obtain⟨x0, -, -, -,xl⟩:=HX1.out.a2;simp at x0;have HH:Hid (∀ X:After W1,Calls Tryz.prog 38 #[.agg #[.slice a.a0 k.mods.length a.c0, .slice a.a1 k.mem.length a.c1, .slice a.a2 k.nodes.length a.c2, .slice (some ⟨b3,0,none⟩) 6 a.c3, .slice a.a4 k.procs.length a.c4], .int .i64 2, .int .i64 (pi:Int)] X.w' fun e w'=>e= .returned (.bool (hasE k.procs 2 (pi:Int)))∧Below X.w'.heap.size X.w' w'):=
  fun X=>Dzz _ _ _ _ _ _ _ _ _ _ (HK1.out.below X.h).krn.procs (by rw[HK.out.l4];unfold maxLen;omega)
 cases hh:hasE k.procs 2 (pi:Int) with
 | false=>
   rw[hh,if_pos rfl] at HRK;simp only[hh] at HH;clear hh;go_wp2;refine Azb (by kernel_rfl) (by kernel_rfl) ?_
   repeat (go_big_quiet_step ((rename_i X;exact Calls.calm (HH.out X))))
   refine wpQuiet_nil ?_;rintro W2 ⟨⟨_,hb2⟩,rfl⟩;rename_i W2;have HB2:=Lib.hid (HB1.out.trans (hb2.mono HB1.out.size));have HK2:=Lib.hid (HK1.out.below hb2);have HX2:=Lib.hid (HX1.out.below hb2 HX1.out.lt);have HF2:=Lib.hid (Fr.low HB2.out (Nat.le_of_lt H0.out.lt));clear hb2 HH z0 z1 z2 z3 y0 y1 y2 c0 c1 c2 c3 c4 gl x0 xl;go_wp2;go_ret2;rw[HRK.out];exact⟨rfl,HF2.out,_,HK2.out⟩
 | true=>
   rw[hh,if_neg (by decide)] at HRK;simp only[hh] at HH;clear hh;by_cases h20:t.size=20
   ·rw[if_pos h20] at HRK
    have r0:((20:Int) - (t.size:Int) == 0)=true:=by rw[beq_iff_eq];omega
    have r1:(20:Int) - (t.size:Int)=0:=by omega
    clear h20;go_wp2;refine Azb (by kernel_rfl) (by kernel_rfl) ?_
    repeat (go_big_quiet_step ((rename_i X;exact Calls.calm (HH.out X))))
    refine wpQuiet_nil ?_;rintro W2 ⟨⟨_,hb2⟩,rfl⟩;rename_i W2;have HB2:=Lib.hid (HB1.out.trans (hb2.mono HB1.out.size));have HK2:=Lib.hid (HK1.out.below hb2);have HX2:=Lib.hid (HX1.out.below hb2 HX1.out.lt);have HF2:=Lib.hid (Fr.low HB2.out (Nat.le_of_lt H0.out.lt));clear hb2 HH z0 z1 z2 z3 y0 y1 y2 c0 c1 c2 c3 c4 gl x0 xl;go_wp2;go_ret2;rw[HRK.out];exact⟨rfl,HF2.out,_,HK2.out⟩
   ·rw[if_neg h20] at HRK
    obtain⟨rm,hrm⟩:∃ rm:Nat,(20:Int) - (t.size:Int)=(rm:Int):=⟨20 - t.size,by omega⟩;have hrm1:1≤rm:=by omega
    have hrm2:rm≤20:=by omega
    have hrm3:20 - t.size=rm:=by omega
    rw[hrm3] at HRK;have r0:((rm:Int) == 0)=false:=by rw[beq_eq_false_iff_ne];omega
    rw[hrm];have HRM:=Lib.hid hrm;clear h20 hrm hrm3;go_wp2;refine Azb (by kernel_rfl) (by kernel_rfl) ?_
    repeat (go_big_quiet_step ((rename_i X;exact Calls.calm (HH.out X))))
    refine wpQuiet_nil ?_;rintro W2 ⟨⟨_,hb2⟩,rfl⟩;rename_i W2;have HB2:=Lib.hid (HB1.out.trans (hb2.mono HB1.out.size));have HK2:=Lib.hid (HK1.out.below hb2);have HX2:=Lib.hid (HX1.out.below hb2 HX1.out.lt);have HF2:=Lib.hid (Fr.low HB2.out (Nat.le_of_lt H0.out.lt));clear hb2 HH z0 z1 z2 z3 y0 y1 y2 c0 c1 c2 c3 c4 gl x0 xl;obtain⟨z0,z1,z2,z3⟩:=HO.out W2 HB2.out;rw[HPI.out.1] at z2;rw[HPI.out.2] at z1;obtain⟨y0,y1,y2⟩:=HCELL.out W2 HB2.out;obtain⟨c0,c1,c2,c3,c4⟩:=HK2.out.c5;rw[HL3.out,HA3.out] at c3;have gl:=HK2.out.blk.lt;obtain⟨x0, -, -, -,xl⟩:=HX2.out.a2;simp at x0;by_cases hc:rm≤s.size
    ·have hc1:(rm:Int)≤(s.size:Int):=by omega
     have HR2:Hid (Azh k p i s=({ k with pipes:=k.pipes.set pi (t++cutS s 0 rm) },ansN rm)):=by
      show _=_;rw[HRK.out,show min rm s.size=rm by omega,Hzi]
     have hcat:¬ (9223372036854775807<t.size+min rm s.size):=by omega
     have hcat2:¬ (9223372036854775807<t.size+s.size):=by omega
     clear HRK hc;go_wp2;go_still_tail 15,(by kernel_rfl);change wpList _ _ _ _ _ W2.drew;have HFIN:=Lib.hid ((HK2.out.below (Below.drewN' (Below.refl _ W2) 1)).pipeCell (i:=pi) HA3.out (t++cutS s 0 rm));have HF5:=Lib.hid ((Fr.drewN HF2.out 1).trans HFIN.out.2);go_upto_region 11 with fail
     simp only[Azz];refine(show ∀ W7:World,KS B W7 g a { k with pipes:=k.pipes.set pi (t++cutS s 0 rm) } ms es→Fr B w W7→Code.wp _ _ _ _ W7 from ?_) _ HFIN.out.1 HF5.out;clear HFIN HF5 HK2 HX2 HF2 HB2 z0 z1 z2 z3 y0 y1 y2 c0 c1 c2 c3 c4 gl x0 xl;intro W7 hK7 hF7;have HK7:=Lib.hid hK7;have HF7:=Lib.hid hF7;clear hK7 hF7;go_wp2;go_ret2;rw[HR2.out];exact⟨rfl,HF7.out,_,HK7.out⟩
    ·have hc1:¬ (rm:Int)≤(s.size:Int):=by omega
     have HR2:Hid (Azh k p i s=({ k with pipes:=k.pipes.set pi (t++s) },ansN s.size)):=by
      show _=_;rw[HRK.out,show min rm s.size=s.size by omega, ←Hzi,Iz3 s _ (Nat.le_refl _)]
     have hcat:¬ (9223372036854775807<t.size+min rm s.size):=by omega
     have hcat2:¬ (9223372036854775807<t.size+s.size):=by omega
     clear HRK hc;go_wp2;go_still_tail 15,(by kernel_rfl);change wpList _ _ _ _ _ W2.drew;have HFIN:=Lib.hid ((HK2.out.below (Below.drewN' (Below.refl _ W2) 1)).pipeCell (i:=pi) HA3.out (t++s));have HF5:=Lib.hid ((Fr.drewN HF2.out 1).trans HFIN.out.2);go_upto_region 11 with fail
     try simp only[Azz,Iz3 s _ (Nat.le_refl _)]
     refine(show ∀ W7:World,KS B W7 g a { k with pipes:=k.pipes.set pi (t++s) } ms es→Fr B w W7→Code.wp _ _ _ _ W7 from ?_) _ HFIN.out.1 HF5.out;clear HFIN HF5 HK2 HX2 HF2 HB2 z0 z1 z2 z3 y0 y1 y2 c0 c1 c2 c3 c4 gl x0 xl;intro W7 hK7 hF7;have HK7:=Lib.hid hK7;have HF7:=Lib.hid hF7;clear hK7 hF7;go_wp2;go_ret2;rw[HR2.out];exact⟨rfl,HF7.out,_,HK7.out⟩
end
end Go.Proofs.YtdjamdbamkhblacGreatDoor
